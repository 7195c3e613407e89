/- Contracts: the signal of a track, by the reference. -/
import Derived.Test.YtdcofkabaigjpaaGreatQBhEdits
set_option linter.unusedVariables false
set_option linter.unusedSimpArgs false
set_option maxHeartbeats 8000000
set_option maxRecDepth 100000
namespace Go.Proofs.YtdcofkabaigjpaaGreat
open Go.RowKit
theorem c_l23Sources (v:Value) (xs:List (List Int)) (w:World) (hS:xGz xs) (hr:T.rd w (T.sl 26 1 (xs.map (T.ints 2))) [v]):Calls Tryz.prog 140 #[v] w fun e w'=>e= .returned (.bool true)∧w=w':=by
 obtain⟨A,cap,rfl,hl,hc,hx⟩:=T.yS hr;have HX:=xN hx;have HS:=xN hS.each;have h6:=hS.few;clear hx hr hS
 go_enter Tryz.func140,Tryz.ntmps140
 go_wp2
 go_loop [3] (fun i=> ∃ k:Nat,k≤xs.length∧i= .int .i64 k) (fun i=>xs.length - (intOf i).toNat)
 case atStart=>exact⟨0,Nat.zero_le _,rfl⟩
 case round=>
  obtain⟨k,hk,rfl⟩:=hrel;by_cases hlt:k<xs.length
  ·have hgk:=gE hlt
   obtain⟨b,off,cs,rfl,hb,hcs,hcell⟩:=HX.o k xs[k] hgk;have hq:=HS.o k _ hgk;generalize xs[k]=l at *;clear hgk;obtain⟨v3,rfl⟩:=T.rd_one hcs;have d0:=hcell 0 v3 rfl;rw[Nat.mul_one,Nat.add_zero] at d0;have R:=xN (T.xB.1 hcs);clear hcs hcell;obtain⟨A3,c3,rfl,l3,m3,x3⟩:=R.o.open_;clear x3;have HQ:=xN hq;clear hq;go_wp2_with (go_at_call 69;refine(c_l03Ok _ l _ R.o).mono ?_;rintro e w' ⟨rfl,rfl⟩;rw[HQ.o])
   go_round
   case rel=>exact⟨k+1,by omega,by go_num⟩
   case measure=>simp[intOf];omega
  ·obtain rfl:k=xs.length:=by omega
   go_wp2;go_ret
   exact⟨yN (decide_eq_true zM),rfl⟩
theorem c_l23Render (x:xS) (b o:Nat) (sources:List (List Int)) (sv:Value) (n:Nat) (w:World) (hT:zAz x) (hS:xGz sources) (hc:Each x.zS fun _ c=>c.zV<(sources.length:Int)) (hn:n≤4000) (hr_:T.rd w (T.sl 26 1 (sources.map (T.ints 2))) [sv]) (h:T.at w x.fs b o):Calls Tryz.prog 141 #[sv,.pointer (some ⟨b,o,none⟩),.int .i64 (n:Int)] w fun e w'=> ∃ v,e= .returned v∧OwI 2 w' w.heap.size v (yEz sources x n)∧Below w.heap.size w w':=by
 have HAT:=xN h;obtain⟨hlt0,cs,hr,hc⟩:=h;obtain⟨v0,rfl,h0⟩:=xS.yT hr;clear hr;obtain⟨va0,vc0,rfl,vl0,vm0,R0,HX0⟩:=oG h0;clear h0;have HL:=xN hlt0;have HCC:=xN hc;have HB0:=xN (Below.refl w.heap.size w);clear hlt0 hc;have HTO:=xN hT;have HSO:=xN hS;have HCS:=xN hc;clear hT hS hc;obtain⟨SA,sc,rfl,sl_,sm,sx⟩:=T.yS hr_;have HSX:=xN sx;clear sx hr_;have HALL:=xN (show uJ sources x.zS n x.zS.length=yEz sources x n from rfl);have p0:=pc1 HB0.o HL.o HCC.o;have lb:b<w.heap.size:=zW HL.o HB0.o.size
 go_enter Tryz.func141,Tryz.ntmps141
 go_wp2_with fail
 refine(vIz n _ zM).mono ?_;rintro e w1 ⟨v1,rfl,ho,hd⟩;have HO1:=xN (show OwI 2 w1 w.heap.size v1 (uJ sources x.zS n 0) from ho);have HB1:=xN hd;clear ho hd p0 lb;have p0:=pc1 HB1.o HL.o HCC.o;have lb:b<w1.heap.size:=zW HL.o HB1.o.size;go_wp2
 go_loopw [8] (fun i wr=> ∃ k:Nat,k≤x.zS.length∧i= .int .i64 (k:Int)∧OwI 2 wr w.heap.size v1 (uJ sources x.zS n k)∧Below w.heap.size w wr) (fun i _=>x.zS.length - (intOf i).toNat)
 case atStart=>exact⟨0,Nat.zero_le _,rfl,HO1.o,HB1.o⟩
 case round=>
  obtain⟨k,hk,rfl,ho,hbw⟩:=hrel;have HO:=xN ho;have HB:=xN hbw;clear ho hbw p0 lb;have p0:=pc1 HB.o HL.o HCC.o;have lb:b<wr.heap.size:=zW HL.o HB.o.size;by_cases hlt:k<x.zS.length
  rotate_left
  ·
   obtain rfl:k=x.zS.length:=by omega
   go_wp2;go_ret
   exact⟨_,rfl,by rw[←HALL.o];exact HO.o,HB.o⟩
  have hgk:=gE hlt;obtain⟨b1,off,csy,hA,hb1,hcs,hcell⟩:=HX0.o k x.zS[k] hgk;subst hA;generalize x.zS[k]=y at *;have HG:=xN hgk;clear hgk;have HAy:=xN (T.at_elem (o:=off+k * 5) hb1 (show T.rds w y.fs csy by simpa only[xU.t,T.rd] using hcs) hcell zM);clear hcs hcell;clear p0 lb;have p0:=pc1 HB.o HL.o HCC.o;have lb:b<wr.heap.size:=zW HL.o HB.o.size;obtain⟨lty,csy',hry,hcy⟩:=HAy.o;obtain rfl:=xU.yT hry;have HCy:=xN hcy;clear hry hcy;obtain⟨cy0,cy1,cy2,cy3,cy4⟩:=pc5 HB.o lty HCy.o;have lb1:b1<wr.heap.size:=zW hb1 HB.o.size;have hok:=(HTO.o.clips k y HG.o).1;have hso:=HCS.o k y HG.o;have i1:=xK.1 hok.source;have i2:=xK.1 hok.length;have i3:=xK.1 hok.from_;have i4:=xK.1 hok.at_;have HGN:=xN hok.gain;clear hok;have hsj:y.zV.toNat<sources.length:=by omega
  have hgs:=gE hsj;obtain⟨b5,o5,c5,rfl,hb5,hcs5,hcell5⟩:=HSX.o _ _ hgs;have HSM:=xN (src_smp HSO.o hgs);have HSD:=xN (show sources.getD y.zV.toNat []=sources[y.zV.toNat] by rw[List.getD_eq_getElem?_getD,hgs];rfl);generalize sources[y.zV.toNat]=src at *;obtain⟨v5,rfl⟩:=T.rd_one hcs5;have e0:=hcell5 0 v5 rfl;rw[Nat.mul_one,Nat.add_zero] at e0;have RS:=xN (T.xB.1 hcs5);clear hcs5 hcell5 hgs;obtain⟨A5,c5,rfl,l5,m5,x5⟩:=RS.o.open_;clear x5;have HE0:=xN e0;clear e0;have HUk:=xN (show uJ sources x.zS n (k+1)=yWz y src (uJ sources x.zS n k) (clipN y n) by show (match x.zS[k]? with|some c=>_|none=>_)=_;rw[HG.o,←HSD.o]);have hcn:clipN y n=min y.zB.toNat (n - y.yE.toNat):=rfl;have HOX:=xN (show OwI 2 wr w.heap.size v1 (yWz y src (uJ sources x.zS n k) 0) from HO.o);go_wp2
  go_loopw [10] (fun i wr=> ∃ q:Nat,q≤clipN y n∧i= .int .i64 (q:Int)∧OwI 2 wr w.heap.size v1 (yWz y src (uJ sources x.zS n k) q)∧Below w.heap.size w wr) (fun i _=>clipN y n - (intOf i).toNat)
  case atStart=>exact⟨0,Nat.zero_le _,rfl,HOX.o,HB.o⟩
  case round=>
   obtain⟨q,hq,rfl,ho,hbw⟩:=hrel;have HOi:=xN ho;have HBi:=xN hbw;clear ho hbw p0 lb cy0 cy1 cy2 cy3 cy4;have p0:=pc1 HBi.o HL.o HCC.o;have lb:b<wr.heap.size:=zW HL.o HBi.o.size;obtain⟨cy0,cy1,cy2,cy3,cy4⟩:=pc5 HBi.o lty HCy.o;have lb1':b1<wr.heap.size:=zW hb1 HBi.o.size;have hwA:IntKind.i64.wrap (y.yE+(q:Int))=y.yE+(q:Int):=IntWalk.i64_in _ zM;by_cases hlq:q<clipN y n
   rotate_left
   ·
    obtain rfl:q=clipN y n:=by omega
    have HREL:=xN (show OwI 2 wr w.heap.size v1 (uJ sources x.zS n (k+1)) by rw[HUk.o];exact HOi.o);generalize hcq:clipN y n=cq at *;by_cases hlen:(cq:Int)<y.zB
    ·
     have hno: ¬ (y.yE+(cq:Int)<(n:Int)):=by omega
     go_wp2
     go_roundw
     case rel=>exact⟨k+1,by omega,by go_num,HREL.o,HBi.o⟩
     case measure=>simp[intOf];omega
    ·
     go_wp2
     go_roundw
     case rel=>exact⟨k+1,by omega,by go_num,HREL.o,HBi.o⟩
     case measure=>simp[intOf];omega
   have hl1:(q:Int)<y.zB:=by omega
   have hl2:y.yE+(q:Int)<(n:Int):=by omega
   obtain⟨j,hj⟩: ∃ j:Nat,y.yE+(q:Int)=(j:Int):=⟨(y.yE+(q:Int)).toNat,by omega⟩;have hjA:y.yE.toNat+q=j:=by omega
   have hjn:(j:Int)<(n:Int):=by omega
   have hwj:IntKind.i64.wrap (j:Int)=(j:Int):=IntWalk.i64_in _ zM;have HCU:=xN (show yWz y src (uJ sources x.zS n k) (q+1)=(yWz y src (uJ sources x.zS n k) q).set j (wrp ((yWz y src (uJ sources x.zS n k) q).getD j 0+y.yB * wM src (y.zO+(q:Int)))) by rw[←hjA];rfl);have hRl:(yWz y src (uJ sources x.zS n k) q).length=n:=by rw[wCz,yOz]
   have HRS:=xN (yKy (c:=y) (src:=src) (vGz (ss:=sources) (l:=x.zS) (n:=n) k) q);generalize hR:yWz y src (uJ sources x.zS n k) q=R at *;have hjl:j<R.length:=by omega
   obtain⟨g,cp,rfl,hcp,hgg,hgw⟩:=OwI.form HOi.o zM;rw[hRl] at *;have hjl2:j<R.length:=by have h:=OwI.sizeN HOi.o;omega
   have HgA:=xN (gE hjl2);have ht0:=HRS.o (R[j]'hjl2) (List.getElem_mem hjl2);have HDA:=xN (show R.getD j 0=(R[j]'hjl2) by rw[List.getD_eq_getElem?_getD,HgA.o];rfl);generalize (R[j]'hjl2)=t0 at *;have hwF:IntKind.i64.wrap (y.zO+(q:Int))=y.zO+(q:Int):=IntWalk.i64_in _ zM;have hs0:=wXz HSM.o (y.zO+(q:Int));obtain⟨s0,hse⟩: ∃ s0,wM src (y.zO+(q:Int))=s0:=⟨_,rfl⟩;have HAT_:=xN (fun(W:World) (hr:RdI W (.slice A5 src.length c5) src)=>(by have:=c_l03At _ src (y.zO+(q:Int)) W hr;rw[hse] at this;exact this:Calls Tryz.prog 115 #[.slice A5 src.length c5,.int .i64 (y.zO+(q:Int))] W fun e w'=>e= .returned (.int .i64 s0)∧W=w'));rw[hse] at hs0 HCU;clear hse;have HS0:=xN hs0;have HT0:=xN ht0;have HIN:=xN (wrp_inner t0 (y.yB * s0));have hsl2:y.zV<(sources.length:Int):=hso;go_wp2;have HCA:=xN (HOi.o.cellN HgA.o);have HE5:=xN ((HBi.o.cell hb5).trans HE0.o);have HWd:=xN (show wr.drew.cell? ⟨b1,off+k * 5,none⟩=some (.int .i64 y.zV)∧wr.drew.cell? ⟨b1,off+k * 5+1,none⟩=some (.int .i64 y.zO)∧wr.drew.cell? ⟨b1,off+k * 5+3,none⟩=some (.int .i64 y.yE)∧wr.drew.cell? ⟨b1,off+k * 5+4,none⟩=some (.int .i64 y.yB)∧wr.drew.cell? ⟨g,j,none⟩=some (.int .i64 t0)∧wr.drew.cell? ⟨b5,o5+y.zV.toNat,none⟩=some (.slice A5 src.length c5) from⟨cy0,cy1,cy3,cy4,HCA.o,HE5.o⟩);have HOd:=xN (show OwI 2 wr.drew w.heap.size (.slice (some ⟨g,0,none⟩) n cp) R from uM HOi.o (Below.refl wr.heap.size wr).drew);have HBd:=xN HBi.o.drew;have HSd:=xN (show RdI wr.drew (.slice A5 src.length c5) src from RdI.below (RdI.below RS.o HBi.o) (Below.refl wr.heap.size wr).drew);clear cy0 cy1 cy2 cy3 cy4 p0 lb;refine zEz (fun w'=>w'.cell? ⟨b1,off+k * 5,none⟩=some (.int .i64 y.zV)∧w'.cell? ⟨b1,off+k * 5+1,none⟩=some (.int .i64 y.zO)∧w'.cell? ⟨b1,off+k * 5+3,none⟩=some (.int .i64 y.yE)∧w'.cell? ⟨b1,off+k * 5+4,none⟩=some (.int .i64 y.yB)∧w'.cell? ⟨g,j,none⟩=some (.int .i64 t0)∧w'.cell? ⟨b5,o5+y.zV.toNat,none⟩=some (.slice A5 src.length c5)) 37 (by kernel_rfl) ?_ (fun hS0=>?_)
   ·exact HWd.o
   generalize hwd:wr.drew=wd at *;clear hwd;refine zE 0 hS0 ?_;refine zE 1 hS0 ?_;refine zE 2 hS0 ?_;refine zE 3 hS0 ?_;refine zE 4 hS0 ?_;refine zE 5 hS0 ?_;refine zE 6 hS0 ?_;refine zE 7 hS0 ?_;refine zE 8 hS0 ?_;refine zE 9 hS0 ?_;refine zE 10 hS0 ?_;refine zE 11 hS0 ?_;refine zE 12 hS0 ?_;refine zE 13 hS0 ?_;refine zE 14 hS0 ?_;refine zE 15 hS0 ?_;refine zE 16 hS0 ?_;refine zE 17 hS0 ?_;refine zE 18 hS0 ?_;refine zE 19 hS0 ?_;refine zE 20 hS0 ?_;refine zE 21 hS0 ?_;refine zE 22 hS0 ?_;refine zE 23 hS0 ?_;refine zE 24 hS0 ?_;refine zE 25 hS0 ?_;refine zE 26 hS0 ?_;refine zE 27 hS0 ?_;refine zE 28 hS0 ?_;refine zE 29 hS0 ?_;refine zE 30 hS0 ?_;refine zE 31 hS0 ?_;refine zE 32 hS0 ?_;refine pE 33 (fun K hK=>?_);go_simp;go_wp2_with (go_at_call 115;refine(HAT_.o _ HSd.o).mono ?_;rintro e w' ⟨rfl,rfl⟩)
   refine uE hK ?_ (fun hS1=>?_)
   ·exact HWd.o
   clear hK K hS0;refine pE 34 (fun K hK=>?_);go_simp;go_wp2_with (go_at_call 143;refine(zBy _ _ _ HGN.o HS0.o).mono ?_;rintro e w' ⟨rfl,rfl⟩)
   refine uE hK ?_ (fun hS2=>?_)
   ·exact HWd.o
   clear hK K hS1;refine pE 35 (fun K hK=>?_);go_simp;go_wp2_with (go_at_call 142;refine(c_mAdd _ _ _ HT0.o (zRz _)).mono ?_;rintro e w' ⟨rfl,rfl⟩;rw[HIN.o])
   refine uE hK ?_ (fun hS3=>?_)
   ·exact HWd.o
   clear hK K hS2;refine zE 36 hS3 ?_;refine qE ?_;have ck:=HWd.o.2.2.2.2.1;have fr:=HOd.o.freeN j;go_wp2;have HO2:=xN (HOd.o.setN j (wrp (t0+y.yB * s0)));have HG2:=xN (HOd.o.grownN j (.int .i64 (wrp (t0+y.yB * s0))));have hgB:w.heap.size≤g:=hgg;have hsd:=HBd.o.size
   go_roundw
   case rel=>exact⟨q+1,by omega,by go_num,by rw[HCU.o,HDA.o];exact HO2.o,HBd.o.grown HG2.o hsd (fun j hj=>by injection hj with hj;omega)⟩
   case measure=>simp[intOf];omega
theorem c_sRenderTrack (x:xS) (cs:List Value) (sources:List (List Int)) (sv:Value) (n:Nat) (w:World) (hT:zAz x) (hS:xGz sources) (hc:Each x.zS fun _ c=>c.zV<(sources.length:Int)) (hn:n≤4000) (hr:T.rd w (T.sl 26 1 (sources.map (T.ints 2))) [sv]) (h:T.rds w x.fs cs):Calls Tryz.prog 111 #[sv,.agg cs.toArray,.int .i64 (n:Int)] w fun e w'=> ∃ v,e= .returned (.tuple #[v,.int .i64 0])∧OwI 2 w' w.heap.size v (yEz sources x n)∧Below w.heap.size w w':=by
 obtain⟨v0,rfl,h0⟩:=xS.yT h;clear h;obtain⟨va0,vc0,rfl,vl0,vm0,R0,HX0⟩:=oG h0;clear h0;obtain⟨HB0,HK0⟩:=aK w 69 #[(.slice va0 x.zS.length vc0)];have HTO:=xN hT;have HSO:=xN hS;have HCS:=xN hc;have HSR:=xN hr;have HTF:=xN (xI hT);clear hT hS hc;obtain⟨SA,sc,rfl,sl_,sm,sx⟩:=T.yS hr;clear sx hr;have hin:inB (n:Int) 0 4000=true:=xK.2 ⟨by omega,by omega⟩;have HIN:=xN hin;clear hin
 go_enter Tryz.func111,Tryz.ntmps111
 go_wp2_with fail
 refine(c_l23Sources _ sources _ HSO.o (T.yJ HSR.o HB0.o)).mono ?_;rintro e w' ⟨rfl,rfl⟩;go_wp2_with fail
 refine(c_l23Ok x _ _ _ (T.at_bk HK0.o (xS.rd_mk (T.yJ R0.o HB0.o)))).mono ?_;rintro e w1 ⟨rfl,hd⟩;rw[HTF.o];have hb:Below (w.alloc (.cells #[(.slice va0 x.zS.length vc0)] 69)).heap.size (w.alloc (.cells #[(.slice va0 x.zS.length vc0)] 69)) w1:=by first|exact hd|exact hd.to_below _|exact hd ▸ zR
 have HK1:=xN (HK0.o.below hb HK0.o.lt);have HB1:=xN (yO HB0.o HB0.o.size hb);clear hb hd;have ka:=HK1.o.cell;have la:=HK1.o.lt;go_wp2_with fail
 refine(wJ _ _ _ _).mono ?_;rintro e w' ⟨rfl,rfl⟩;rw[HIN.o];go_wp2
 go_loopw [8] (fun i wr=> ∃ k:Nat,k≤x.zS.length∧i= .int .i64 (k:Int)∧wr=w1) (fun i _=>x.zS.length - (intOf i).toNat)
 case atStart=>exact⟨0,Nat.zero_le _,rfl,rfl⟩
 case round=>
  obtain⟨k,hk,rfl,rfl⟩:=hrel;by_cases hlt:k<x.zS.length
  rotate_left
  ·
   obtain rfl:k=x.zS.length:=by omega
   go_wp2_with fail
   refine(c_l23Render x _ _ sources _ n _ HTO.o HSO.o HCS.o hn (T.yJ HSR.o HB1.o) (T.at_bk HK1.o (xS.rd_mk (T.yJ R0.o HB1.o)))).mono ?_;rintro e w9 ⟨v9,rfl,ho,hb⟩;have HO9:=xN (zGz ho HB1.o.size);have HB9:=xN (yO HB1.o HB1.o.size hb);clear ho hb ka la;go_wp2
   go_ret2
   exact⟨_,rfl,HO9.o,HB9.o⟩
  have HB:=HB1;have hgk:=gE hlt;obtain⟨b1,off,cs1,hA,hb1,hcs,hcell⟩:=HX0.o k x.zS[k] hgk;subst hA;generalize x.zS[k]=y at *;have HG:=xN hgk;clear hgk;obtain rfl:=xU.yT (show T.rds _ _ _ by simpa only[xU.t,T.rd] using hcs);obtain⟨d0,d1,d2,d3,d4⟩:=oc5 HB.o hb1 hcell;clear hcs hcell;have hq1:b1<wr.heap.size:=zW hb1 HB.o.size;have hso:=HCS.o k y HG.o;go_wp2
  go_roundw
  case rel=>exact⟨k+1,by omega,by go_num,by first|trivial|rfl⟩
  case measure=>simp[intOf];omega
end Go.Proofs.YtdcofkabaigjpaaGreat
