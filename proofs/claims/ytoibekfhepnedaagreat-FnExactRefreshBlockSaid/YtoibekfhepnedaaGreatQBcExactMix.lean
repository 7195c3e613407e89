/- Contracts: the signal of a track, by the reference. -/
import Derived.Test.YtoibekfhepnedaaGreatQAyExactMix
import Derived.Test.YtoibekfhepnedaaGreatQAfExactMix
import Derived.Test.YtoibekfhepnedaaGreatQAsExactMix
set_option linter.unusedVariables false
set_option linter.unusedSimpArgs false
set_option maxHeartbeats 8000000
set_option maxRecDepth 100000
namespace Go.Proofs.YtoibekfhepnedaaGreat
open Go.RowKit
theorem c_l23Sources (v:Value) (xs:List (List Int)) (w:World) (hS:zTz xs) (hr:T.rd w (T.sl 26 1 (xs.map (T.ints 2))) [v]):Calls Tryz.prog 236 #[v] w fun e w'=>e= .returned (.bool true)∧w=w':=by
 obtain⟨A,cap,rfl,hl,hc,hx⟩:=T.yU hr;have HX:=xN hx;have HS:=xN hS.each;have h6:=hS.few;clear hx hr hS
 go_enter Tryz.func236,Tryz.ntmps236
 go_wp2
 go_loop [3] (fun i=> ∃ k:Nat,k≤xs.length∧i= .int .i64 k) (fun i=>xs.length - (intOf i).toNat)
 case atStart=>exact⟨0,Nat.zero_le _,rfl⟩
 case round=>
  obtain⟨k,hk,rfl⟩:=hrel;by_cases hlt:k<xs.length
  ·have hgk:=gE hlt
   obtain⟨b,off,cs,rfl,hb,hcs,hcell⟩:=HX.out k xs[k] hgk;have hq:=HS.out k _ hgk;generalize xs[k]=l at *;clear hgk;obtain⟨v3,rfl⟩:=T.rd_one hcs;have d0:=hcell 0 v3 rfl;rw[Nat.mul_one,Nat.add_zero] at d0;have R:=xN (T.xB.1 hcs);clear hcs hcell;obtain⟨A3,c3,rfl,l3,m3,x3⟩:=R.out.open_;clear x3;have HQ:=xN hq;clear hq;go_wp2_with (go_at_call 123;refine(wHz _ l _ R.out).mono ?_;rintro e w' ⟨rfl,rfl⟩;rw[HQ.out])
   go_round
   case rel=>exact⟨k+1,by omega,by go_num⟩
   case measure=>simp[intOf];omega
  ·obtain rfl:k=xs.length:=by omega
   go_wp2;go_ret
   exact⟨yP (decide_eq_true zM),rfl⟩
theorem c_l23Render (x:xQ) (b o:Nat) (sources:List (List Int)) (sv:Value) (n:Nat) (w:World) (hT:zWz x) (hS:zTz sources) (hc:Each x.zZ fun _ c=>c.yD<(sources.length:Int)) (hn:n≤4000) (hr_:T.rd w (T.sl 26 1 (sources.map (T.ints 2))) [sv]) (h:T.at w x.fs b o):Calls Tryz.prog 237 #[sv,.pointer (some ⟨b,o,none⟩),.int .i64 (n:Int)] w fun e w'=> ∃ v,e= .returned v∧OwI 2 w' w.heap.size v (zIz sources x n)∧Below w.heap.size w w':=by
 have HAT:=xN h;obtain⟨hlt0,cs,hr,hc⟩:=h;obtain⟨v0,rfl,h0⟩:=xQ.yV hr;clear hr;obtain⟨va0,vc0,rfl,vl0,vm0,R0,HX0⟩:=oG h0;clear h0;have HL:=xN hlt0;have HCC:=xN hc;have HB0:=xN (Below.refl w.heap.size w);clear hlt0 hc;have HTO:=xN hT;have HSO:=xN hS;have HCS:=xN hc;clear hT hS hc;obtain⟨SA,sc,rfl,sl_,sm,sx⟩:=T.yU hr_;have HSX:=xN sx;clear sx hr_;have HALL:=xN (show vI sources x.zZ n x.zZ.length=zIz sources x n from rfl);have p0:w.cell? ⟨b,o,none⟩=some (.slice va0 x.zZ.length vc0):=(HB0.out.cell HL.out).trans (HCC.out 0 _ rfl);have lb:b<w.heap.size:=zW HL.out HB0.out.size
 go_enter Tryz.func237,Tryz.ntmps237
 go_wp2_with fail
 refine(wWz n _ zM).mono ?_;rintro e w1 ⟨v1,rfl,ho,hd⟩;have HO1:=xN (show OwI 2 w1 w.heap.size v1 (vI sources x.zZ n 0) from ho);have HB1:=xN hd;clear ho hd p0 lb;have p0:w1.cell? ⟨b,o,none⟩=some (.slice va0 x.zZ.length vc0):=(HB1.out.cell HL.out).trans (HCC.out 0 _ rfl);have lb:b<w1.heap.size:=zW HL.out HB1.out.size;go_wp2
 go_loopw [8] (fun i wr=> ∃ k:Nat,k≤x.zZ.length∧i= .int .i64 (k:Int)∧OwI 2 wr w.heap.size v1 (vI sources x.zZ n k)∧Below w.heap.size w wr) (fun i _=>x.zZ.length - (intOf i).toNat)
 case atStart=>exact⟨0,Nat.zero_le _,rfl,HO1.out,HB1.out⟩
 case round=>
  obtain⟨k,hk,rfl,ho,hbw⟩:=hrel;have HO:=xN ho;have HB:=xN hbw;clear ho hbw p0 lb;have p0:wr.cell? ⟨b,o,none⟩=some (.slice va0 x.zZ.length vc0):=(HB.out.cell HL.out).trans (HCC.out 0 _ rfl);have lb:b<wr.heap.size:=zW HL.out HB.out.size;by_cases hlt:k<x.zZ.length
  rotate_left
  ·
   obtain rfl:k=x.zZ.length:=by omega
   go_wp2;go_ret
   exact⟨_,rfl,by rw[←HALL.out];exact HO.out,HB.out⟩
  have hgk:=gE hlt;obtain⟨b1,off,csy,hA,hb1,hcs,hcell⟩:=HX0.out k x.zZ[k] hgk;subst hA;generalize x.zZ[k]=y at *;have HG:=xN hgk;clear hgk;have HAy:=xN (T.at_elem (o:=off+k * 5) hb1 (show T.rds w y.fs csy by simpa only[xU.t,T.rd] using hcs) hcell zM);clear hcs hcell;clear p0 lb;have p0:wr.cell? ⟨b,o,none⟩=some (.slice (some ⟨b1,off,none⟩) x.zZ.length vc0):=(HB.out.cell HL.out).trans (HCC.out 0 _ rfl);have lb:b<wr.heap.size:=zW HL.out HB.out.size;obtain⟨lty,csy',hry,hcy⟩:=HAy.out;obtain rfl:=xU.yV hry;have HCy:=xN hcy;clear hry hcy;have cy0:wr.cell? ⟨b1,off+k * 5,none⟩=some (.int .i64 y.yD):=(HB.out.cell lty).trans (HCy.out 0 _ rfl);have cy1:wr.cell? ⟨b1,off+k * 5+1,none⟩=some (.int .i64 y.zK):=(HB.out.cell lty).trans (HCy.out 1 _ rfl);have cy2:wr.cell? ⟨b1,off+k * 5+2,none⟩=some (.int .i64 y.zF):=(HB.out.cell lty).trans (HCy.out 2 _ rfl);have cy3:wr.cell? ⟨b1,off+k * 5+3,none⟩=some (.int .i64 y.yH):=(HB.out.cell lty).trans (HCy.out 3 _ rfl);have cy4:wr.cell? ⟨b1,off+k * 5+4,none⟩=some (.int .i64 y.yB):=(HB.out.cell lty).trans (HCy.out 4 _ rfl);have lb1:b1<wr.heap.size:=zW hb1 HB.out.size;have hok:=(HTO.out.clips k y HG.out).1;have hso:=HCS.out k y HG.out;have i1:=xK.1 hok.source;have i2:=xK.1 hok.length;have i3:=xK.1 hok.from_;have i4:=xK.1 hok.at_;have HGN:=xN hok.gain;clear hok;have hsj:y.yD.toNat<sources.length:=by omega
  have hgs:=gE hsj;obtain⟨b5,o5,c5,rfl,hb5,hcs5,hcell5⟩:=HSX.out _ _ hgs;have HSM:=xN (src_smp HSO.out hgs);have HSD:=xN (show sources.getD y.yD.toNat []=sources[y.yD.toNat] by rw[List.getD_eq_getElem?_getD,hgs];rfl);generalize sources[y.yD.toNat]=src at *;obtain⟨v5,rfl⟩:=T.rd_one hcs5;have e0:=hcell5 0 v5 rfl;rw[Nat.mul_one,Nat.add_zero] at e0;have RS:=xN (T.xB.1 hcs5);clear hcs5 hcell5 hgs;obtain⟨A5,c5,rfl,l5,m5,x5⟩:=RS.out.open_;clear x5;have HE0:=xN e0;clear e0;have HUk:=xN (show vI sources x.zZ n (k+1)=uY y src (vI sources x.zZ n k) (wPz y n) by show (match x.zZ[k]? with|some c=>_|none=>_)=_;rw[HG.out,←HSD.out]);have hcn:wPz y n=min y.zF.toNat (n - y.yH.toNat):=rfl;have HOX:=xN (show OwI 2 wr w.heap.size v1 (uY y src (vI sources x.zZ n k) 0) from HO.out);go_wp2
  go_loopw [10] (fun i wr=> ∃ q:Nat,q≤wPz y n∧i= .int .i64 (q:Int)∧OwI 2 wr w.heap.size v1 (uY y src (vI sources x.zZ n k) q)∧Below w.heap.size w wr) (fun i _=>wPz y n - (intOf i).toNat)
  case atStart=>exact⟨0,Nat.zero_le _,rfl,HOX.out,HB.out⟩
  case round=>
   obtain⟨q,hq,rfl,ho,hbw⟩:=hrel;have HOi:=xN ho;have HBi:=xN hbw;clear ho hbw p0 lb cy0 cy1 cy2 cy3 cy4;have p0:wr.cell? ⟨b,o,none⟩=some (.slice (some ⟨b1,off,none⟩) x.zZ.length vc0):=(HBi.out.cell HL.out).trans (HCC.out 0 _ rfl);have lb:b<wr.heap.size:=zW HL.out HBi.out.size;have cy0:wr.cell? ⟨b1,off+k * 5,none⟩=some (.int .i64 y.yD):=(HBi.out.cell lty).trans (HCy.out 0 _ rfl);have cy1:wr.cell? ⟨b1,off+k * 5+1,none⟩=some (.int .i64 y.zK):=(HBi.out.cell lty).trans (HCy.out 1 _ rfl);have cy2:wr.cell? ⟨b1,off+k * 5+2,none⟩=some (.int .i64 y.zF):=(HBi.out.cell lty).trans (HCy.out 2 _ rfl);have cy3:wr.cell? ⟨b1,off+k * 5+3,none⟩=some (.int .i64 y.yH):=(HBi.out.cell lty).trans (HCy.out 3 _ rfl);have cy4:wr.cell? ⟨b1,off+k * 5+4,none⟩=some (.int .i64 y.yB):=(HBi.out.cell lty).trans (HCy.out 4 _ rfl);have lb1':b1<wr.heap.size:=zW hb1 HBi.out.size;have hwA:IntKind.i64.wrap (y.yH+(q:Int))=y.yH+(q:Int):=IntWalk.i64_in _ zM;by_cases hlq:q<wPz y n
   rotate_left
   ·
    obtain rfl:q=wPz y n:=by omega
    have HREL:=xN (show OwI 2 wr w.heap.size v1 (vI sources x.zZ n (k+1)) by rw[HUk.out];exact HOi.out);generalize hcq:wPz y n=cq at *;by_cases hlen:(cq:Int)<y.zF
    ·
     have hno: ¬ (y.yH+(cq:Int)<(n:Int)):=by omega
     go_wp2
     go_roundw
     case rel=>exact⟨k+1,by omega,by go_num,HREL.out,HBi.out⟩
     case measure=>simp[intOf];omega
    ·
     go_wp2
     go_roundw
     case rel=>exact⟨k+1,by omega,by go_num,HREL.out,HBi.out⟩
     case measure=>simp[intOf];omega
   have hl1:(q:Int)<y.zF:=by omega
   have hl2:y.yH+(q:Int)<(n:Int):=by omega
   obtain⟨j,hj⟩: ∃ j:Nat,y.yH+(q:Int)=(j:Int):=⟨(y.yH+(q:Int)).toNat,by omega⟩;have hjA:y.yH.toNat+q=j:=by omega
   have hjn:(j:Int)<(n:Int):=by omega
   have hwj:IntKind.i64.wrap (j:Int)=(j:Int):=IntWalk.i64_in _ zM;have HCU:=xN (show uY y src (vI sources x.zZ n k) (q+1)=(uY y src (vI sources x.zZ n k) q).set j (wrp ((uY y src (vI sources x.zZ n k) q).getD j 0+y.yB * vF src (y.zK+(q:Int)))) by rw[←hjA];rfl);have hRl:(uY y src (vI sources x.zZ n k) q).length=n:=by rw[xSz,zJz]
   have HRS:=xN (uAz (c:=y) (src:=src) (xAz (ss:=sources) (l:=x.zZ) (n:=n) k) q);generalize hR:uY y src (vI sources x.zZ n k) q=R at *;have hjl:j<R.length:=by omega
   obtain⟨g,cp,rfl,hcp,hgg,hgw⟩:=OwI.form HOi.out zM;rw[hRl] at *;have hjl2:j<R.length:=by have h:=OwI.sizeN HOi.out;omega
   have HgA:=xN (gE hjl2);have ht0:=HRS.out (R[j]'hjl2) (List.getElem_mem hjl2);have HDA:=xN (show R.getD j 0=(R[j]'hjl2) by rw[List.getD_eq_getElem?_getD,HgA.out];rfl);generalize (R[j]'hjl2)=t0 at *;have hwF:IntKind.i64.wrap (y.zK+(q:Int))=y.zK+(q:Int):=IntWalk.i64_in _ zM;have hs0:=wJz HSM.out (y.zK+(q:Int));obtain⟨s0,hse⟩: ∃ s0,vF src (y.zK+(q:Int))=s0:=⟨_,rfl⟩;have HAT_:=xN (fun(W:World) (hr:RdI W (.slice A5 src.length c5) src)=>(by have:=c_l03At _ src (y.zK+(q:Int)) W hr;rw[hse] at this;exact this:Calls Tryz.prog 189 #[.slice A5 src.length c5,.int .i64 (y.zK+(q:Int))] W fun e w'=>e= .returned (.int .i64 s0)∧W=w'));rw[hse] at hs0 HCU;clear hse;have HS0:=xN hs0;have HT0:=xN ht0;have HIN:=xN (wrp_inner t0 (y.yB * s0));have hsl2:y.yD<(sources.length:Int):=hso;go_wp2;have HCA:=xN (HOi.out.yJz HgA.out);have HE5:=xN ((HBi.out.cell hb5).trans HE0.out);have HWd:=xN (show wr.drew.cell? ⟨b1,off+k * 5,none⟩=some (.int .i64 y.yD)∧wr.drew.cell? ⟨b1,off+k * 5+1,none⟩=some (.int .i64 y.zK)∧wr.drew.cell? ⟨b1,off+k * 5+3,none⟩=some (.int .i64 y.yH)∧wr.drew.cell? ⟨b1,off+k * 5+4,none⟩=some (.int .i64 y.yB)∧wr.drew.cell? ⟨g,j,none⟩=some (.int .i64 t0)∧wr.drew.cell? ⟨b5,o5+y.yD.toNat,none⟩=some (.slice A5 src.length c5) from⟨cy0,cy1,cy3,cy4,HCA.out,HE5.out⟩);have HOd:=xN (show OwI 2 wr.drew w.heap.size (.slice (some ⟨g,0,none⟩) n cp) R from wX HOi.out (Below.refl wr.heap.size wr).drew);have HBd:=xN HBi.out.drew;have HSd:=xN (show RdI wr.drew (.slice A5 src.length c5) src from RdI.below (RdI.below RS.out HBi.out) (Below.refl wr.heap.size wr).drew);clear cy0 cy1 cy2 cy3 cy4 p0 lb;refine vC (fun w'=>w'.cell? ⟨b1,off+k * 5,none⟩=some (.int .i64 y.yD)∧w'.cell? ⟨b1,off+k * 5+1,none⟩=some (.int .i64 y.zK)∧w'.cell? ⟨b1,off+k * 5+3,none⟩=some (.int .i64 y.yH)∧w'.cell? ⟨b1,off+k * 5+4,none⟩=some (.int .i64 y.yB)∧w'.cell? ⟨g,j,none⟩=some (.int .i64 t0)∧w'.cell? ⟨b5,o5+y.yD.toNat,none⟩=some (.slice A5 src.length c5)) 37 (by kernel_rfl) ?_ (fun hS0=>?_)
   ·exact HWd.out
   generalize hwd:wr.drew=wd at *;clear hwd;refine zE 0 hS0 ?_;refine zE 1 hS0 ?_;refine zE 2 hS0 ?_;refine zE 3 hS0 ?_;refine zE 4 hS0 ?_;refine zE 5 hS0 ?_;refine zE 6 hS0 ?_;refine zE 7 hS0 ?_;refine zE 8 hS0 ?_;refine zE 9 hS0 ?_;refine zE 10 hS0 ?_;refine zE 11 hS0 ?_;refine zE 12 hS0 ?_;refine zE 13 hS0 ?_;refine zE 14 hS0 ?_;refine zE 15 hS0 ?_;refine zE 16 hS0 ?_;refine zE 17 hS0 ?_;refine zE 18 hS0 ?_;refine zE 19 hS0 ?_;refine zE 20 hS0 ?_;refine zE 21 hS0 ?_;refine zE 22 hS0 ?_;refine zE 23 hS0 ?_;refine zE 24 hS0 ?_;refine zE 25 hS0 ?_;refine zE 26 hS0 ?_;refine zE 27 hS0 ?_;refine zE 28 hS0 ?_;refine zE 29 hS0 ?_;refine zE 30 hS0 ?_;refine zE 31 hS0 ?_;refine zE 32 hS0 ?_;refine pE 33 (fun K hK=>?_);go_simp;go_wp2_with (go_at_call 189;refine(HAT_.out _ HSd.out).mono ?_;rintro e w' ⟨rfl,rfl⟩)
   refine uE hK ?_ (fun hS1=>?_)
   ·exact HWd.out
   clear hK K hS0;refine pE 34 (fun K hK=>?_);go_simp;go_wp2_with (go_at_call 239;refine(uQz _ _ _ HGN.out HS0.out).mono ?_;rintro e w' ⟨rfl,rfl⟩)
   refine uE hK ?_ (fun hS2=>?_)
   ·exact HWd.out
   clear hK K hS1;refine pE 35 (fun K hK=>?_);go_simp;go_wp2_with (go_at_call 238;refine(c_mAdd _ _ _ HT0.out (zCz _)).mono ?_;rintro e w' ⟨rfl,rfl⟩;rw[HIN.out])
   refine uE hK ?_ (fun hS3=>?_)
   ·exact HWd.out
   clear hK K hS2;refine zE 36 hS3 ?_;refine qE ?_;have ck:=HWd.out.2.2.2.2.1;have fr:=HOd.out.freeN j;go_wp2;have HO2:=xN (HOd.out.setN j (wrp (t0+y.yB * s0)));have HG2:=xN (HOd.out.grownN j (.int .i64 (wrp (t0+y.yB * s0))));have hgB:w.heap.size≤g:=hgg;have hsd:=HBd.out.size
   go_roundw
   case rel=>exact⟨q+1,by omega,by go_num,by rw[HCU.out,HDA.out];exact HO2.out,HBd.out.grown HG2.out hsd (fun j hj=>by injection hj with hj;omega)⟩
   case measure=>simp[intOf];omega
theorem c_sRenderTrack (x:xQ) (cs:List Value) (sources:List (List Int)) (sv:Value) (n:Nat) (w:World) (hT:zWz x) (hS:zTz sources) (hc:Each x.zZ fun _ c=>c.yD<(sources.length:Int)) (hn:n≤4000) (hr:T.rd w (T.sl 26 1 (sources.map (T.ints 2))) [sv]) (h:T.rds w x.fs cs):Calls Tryz.prog 185 #[sv,.agg cs.toArray,.int .i64 (n:Int)] w fun e w'=> ∃ v,e= .returned (.tuple #[v,.int .i64 0])∧OwI 2 w' w.heap.size v (zIz sources x n)∧Below w.heap.size w w':=by
 obtain⟨v0,rfl,h0⟩:=xQ.yV h;clear h;obtain⟨va0,vc0,rfl,vl0,vm0,R0,HX0⟩:=oG h0;clear h0;have HB0:=xN (show Below w.heap.size w (w.alloc (.cells #[(.slice va0 x.zZ.length vc0)] 96)) from zR.alloc zJ _);have HK0:=xN (Bk.born w 96 #[(.slice va0 x.zZ.length vc0)]);have HTO:=xN hT;have HSO:=xN hS;have HCS:=xN hc;have HSR:=xN hr;have HTF:=xN (xI hT);clear hT hS hc;obtain⟨SA,sc,rfl,sl_,sm,sx⟩:=T.yU hr;clear sx hr;have hin:inB (n:Int) 0 4000=true:=xK.2 ⟨by omega,by omega⟩;have HIN:=xN hin;clear hin
 go_enter Tryz.func185,Tryz.ntmps185
 go_wp2_with fail
 refine(c_l23Sources _ sources _ HSO.out (T.yM HSR.out HB0.out)).mono ?_;rintro e w' ⟨rfl,rfl⟩;go_wp2_with fail
 refine(c_l23Ok x _ _ _ (T.at_bk HK0.out (xQ.rd_mk (T.yM R0.out HB0.out)))).mono ?_;rintro e w1 ⟨rfl,hd⟩;rw[HTF.out];have hb:Below (w.alloc (.cells #[(.slice va0 x.zZ.length vc0)] 96)).heap.size (w.alloc (.cells #[(.slice va0 x.zZ.length vc0)] 96)) w1:=by first|exact hd|exact hd.to_below _|exact hd ▸ zR
 have HK1:=xN (HK0.out.below hb HK0.out.lt);have HB1:=xN (yQ HB0.out HB0.out.size hb);clear hb hd;have ka:=HK1.out.cell;have la:=HK1.out.lt;go_wp2_with fail
 refine(wI _ _ _ _).mono ?_;rintro e w' ⟨rfl,rfl⟩;rw[HIN.out];go_wp2
 go_loopw [8] (fun i wr=> ∃ k:Nat,k≤x.zZ.length∧i= .int .i64 (k:Int)∧wr=w1) (fun i _=>x.zZ.length - (intOf i).toNat)
 case atStart=>exact⟨0,Nat.zero_le _,rfl,rfl⟩
 case round=>
  obtain⟨k,hk,rfl,rfl⟩:=hrel;by_cases hlt:k<x.zZ.length
  rotate_left
  ·
   obtain rfl:k=x.zZ.length:=by omega
   go_wp2_with fail
   refine(c_l23Render x _ _ sources _ n _ HTO.out HSO.out HCS.out hn (T.yM HSR.out HB1.out) (T.at_bk HK1.out (xQ.rd_mk (T.yM R0.out HB1.out)))).mono ?_;rintro e w9 ⟨v9,rfl,ho,hb⟩;have HO9:=xN (wU ho HB1.out.size);have HB9:=xN (yQ HB1.out HB1.out.size hb);clear ho hb ka la;go_wp2
   go_ret2
   exact⟨_,rfl,HO9.out,HB9.out⟩
  have HB:=HB1;have hgk:=gE hlt;obtain⟨b1,off,cs1,hA,hb1,hcs,hcell⟩:=HX0.out k x.zZ[k] hgk;subst hA;generalize x.zZ[k]=y at *;have HG:=xN hgk;clear hgk;obtain rfl:=xU.yV (show T.rds _ _ _ by simpa only[xU.t,T.rd] using hcs);have d0:=(HB.out.cell hb1).trans (hcell 0 (.int .i64 y.yD) rfl);have d1:=(HB.out.cell hb1).trans (hcell 1 (.int .i64 y.zK) rfl);have d2:=(HB.out.cell hb1).trans (hcell 2 (.int .i64 y.zF) rfl);have d3:=(HB.out.cell hb1).trans (hcell 3 (.int .i64 y.yH) rfl);have d4:=(HB.out.cell hb1).trans (hcell 4 (.int .i64 y.yB) rfl);rw[show off+(k * 5+0)=off+k * 5 by omega] at d0;rw[show off+(k * 5+1)=off+k * 5+1 by omega] at d1;rw[show off+(k * 5+2)=off+k * 5+2 by omega] at d2;rw[show off+(k * 5+3)=off+k * 5+3 by omega] at d3;rw[show off+(k * 5+4)=off+k * 5+4 by omega] at d4;clear hcs hcell;have hq1:b1<wr.heap.size:=zW hb1 HB.out.size;have hso:=HCS.out k y HG.out;go_wp2
  go_roundw
  case rel=>exact⟨k+1,by omega,by go_num,by first|trivial|rfl⟩
  case measure=>simp[intOf];omega
end Go.Proofs.YtoibekfhepnedaaGreat
