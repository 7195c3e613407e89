/- Contract: the signal of a track, by the program. Contract: entry times of a mixer, by the reference. Contract: entry times of a mixer, by the program. Contracts: the latency of a mixer, both sides. -/
import Derived.Test.YtoibekfhepnedaaGreatQAsExactMix
import Derived.Test.YtoibekfhepnedaaGreatQAqExactMix
import Derived.Test.YtoibekfhepnedaaGreatQAdExactMix
import Derived.Test.YtoibekfhepnedaaGreatQAfExactMix
import Derived.Test.YtoibekfhepnedaaGreatQApExactMix
set_option linter.unusedVariables false
set_option linter.unusedSimpArgs false
set_option maxHeartbeats 8000000
set_option maxRecDepth 100000
namespace Go.Proofs.YtoibekfhepnedaaGreat
section
open Go.RowKit
theorem src_smp {ss:List (List Int)} (h:zTz ss) {i:Nat} {l:List Int} (hl:ss[i]?=some l): ∀ x ∈ l,Smp x:=by
 have e:=h.each i l hl;unfold wFz at e;simp only[Bool.and_eq_true,smpB,decide_eq_true_eq] at e;exact e.2
theorem c_renderTrack (x:xQ) (cs:List Value) (sources:List (List Int)) (sv:Value) (n:Nat) (w:World) (hT:zWz x) (hS:zTz sources) (hc:Each x.zZ fun _ c=>c.yD<(sources.length:Int)) (hn:n≤4000) (hr:T.rd w (T.sl 26 1 (sources.map (T.ints 2))) [sv]) (h:T.rds w x.fs cs):Calls Tryz.prog 194 #[sv,.agg cs.toArray,.int .i64 (n:Int)] w fun e w'=> ∃ v,e= .returned v∧OwI 2 w' w.heap.size v (zIz sources x n)∧Below w.heap.size w w':=by
 obtain⟨v0,rfl,h0⟩:=xQ.yV h;clear h;obtain⟨va0,vc0,rfl,vl0,vm0,R0,HX0⟩:=oG h0;clear h0;have HB0:=xN (show Below w.heap.size w (w.alloc (.cells #[(.slice va0 x.zZ.length vc0)] 96)) from zR.alloc zJ _);have HK0:=xN (Bk.born w 96 #[(.slice va0 x.zZ.length vc0)]);have HTO:=xN hT;have HSO:=xN hS;have HCS:=xN hc;clear hT hS hc;obtain⟨SA,sc,rfl,sl_,sm,sx⟩:=T.yU hr;have HSX:=xN sx;clear sx hr;have HALL:=xN (show vI sources x.zZ n x.zZ.length=zIz sources x n from rfl)
 go_enter Tryz.func194,Tryz.ntmps194
 go_wp2_with fail
 refine(uR n _ zM).mono ?_;rintro e w1 ⟨rfl,ho,hd⟩;have HOz:=xN ho;clear ho;have hb:Below (w.alloc (.cells #[(.slice va0 x.zZ.length vc0)] 96)).heap.size (w.alloc (.cells #[(.slice va0 x.zZ.length vc0)] 96)) w1:=by first|exact hd|exact hd.to_below _|exact hd ▸ zR
 have HK1:=xN (HK0.out.below hb HK0.out.lt);have HB1:=xN (yQ HB0.out HB0.out.size hb);clear hb hd;have ka:=HK1.out.cell;have la:=HK1.out.lt;have hgz:w.heap.size<(w.alloc (.cells #[(.slice va0 x.zZ.length vc0)] 96)).heap.size:=by simp
 generalize (w.alloc (.cells #[(.slice va0 x.zZ.length vc0)] 96)).heap.size=g at *;have HO1:=xN (show OwI 2 w1 g (.slice (some ⟨g,0,none⟩) n n) (vI sources x.zZ n 0) from HOz.out);have hg1:g<w1.heap.size:=(HOz.out.lt g rfl).2;clear HOz;go_wp2
 go_loopw [16] (fun i wr=> ∃ k:Nat,k≤x.zZ.length∧i= .int .i64 (k:Int)∧OwI 2 wr g (.slice (some ⟨g,0,none⟩) n n) (vI sources x.zZ n k)∧Below w.heap.size w wr∧Bk wr w.heap.size 96 #[(.slice va0 x.zZ.length vc0)]∧g<wr.heap.size) (fun i _=>x.zZ.length - (intOf i).toNat)
 case atStart=>exact⟨0,Nat.zero_le _,rfl,HO1.out,HB1.out,HK1.out,hg1⟩
 case round=>
  obtain⟨k,hk,rfl,ho,hbw,hbk,hgw⟩:=hrel;have HO:=xN ho;have HB:=xN hbw;have HK:=xN hbk;clear ho hbw hbk ka la;have ka:=HK.out.cell;have la:=HK.out.lt;by_cases hlt:k<x.zZ.length
  rotate_left
  ·
   obtain rfl:k=x.zZ.length:=by omega
   go_wp2;go_ret
   exact⟨_,rfl,by rw[←HALL.out];exact wU HO.out zM,HB.out⟩
  have hgk:=gE hlt;obtain⟨b1,off,cs1,hA,hb1,hcs,hcell⟩:=HX0.out k x.zZ[k] hgk;subst hA;generalize x.zZ[k]=y at *;have HG:=xN hgk;clear hgk;obtain rfl:=xU.yV (show T.rds _ _ _ by simpa only[xU.t,T.rd] using hcs);have d0:=(HB.out.cell hb1).trans (hcell 0 (.int .i64 y.yD) rfl);have d1:=(HB.out.cell hb1).trans (hcell 1 (.int .i64 y.zK) rfl);have d2:=(HB.out.cell hb1).trans (hcell 2 (.int .i64 y.zF) rfl);have d3:=(HB.out.cell hb1).trans (hcell 3 (.int .i64 y.yH) rfl);have d4:=(HB.out.cell hb1).trans (hcell 4 (.int .i64 y.yB) rfl);rw[show off+(k * 5+0)=off+k * 5 by omega] at d0;rw[show off+(k * 5+1)=off+k * 5+1 by omega] at d1;rw[show off+(k * 5+2)=off+k * 5+2 by omega] at d2;rw[show off+(k * 5+3)=off+k * 5+3 by omega] at d3;rw[show off+(k * 5+4)=off+k * 5+4 by omega] at d4;clear hcs hcell;have hq1:b1<wr.heap.size:=zW hb1 HB.out.size;have hok:=(HTO.out.clips k y HG.out).1;have hso:=HCS.out k y HG.out;have i1:=xK.1 hok.source;have i2:=xK.1 hok.length;have i3:=xK.1 hok.from_;have i4:=xK.1 hok.at_;have HGN:=xN hok.gain;clear hok;have hsj:y.yD.toNat<sources.length:=by omega
  have hgs:=gE hsj;obtain⟨b5,o5,c5,rfl,hb5,hcs5,hcell5⟩:=HSX.out _ _ hgs;have HSM:=xN (src_smp HSO.out hgs);have HSD:=xN (show sources.getD y.yD.toNat []=sources[y.yD.toNat] by rw[List.getD_eq_getElem?_getD,hgs];rfl);generalize sources[y.yD.toNat]=src at *;obtain⟨v5,rfl⟩:=T.rd_one hcs5;have e0:=hcell5 0 v5 rfl;rw[Nat.mul_one,Nat.add_zero] at e0;have RS:=xN (T.xB.1 hcs5);clear hcs5 hcell5 hgs;obtain⟨A5,c5,rfl,l5,m5,x5⟩:=RS.out.open_;clear x5;have HE0:=xN e0;clear e0;have HUk:=xN (show vI sources x.zZ n (k+1)=uY y src (vI sources x.zZ n k) (wPz y n) by show (match x.zZ[k]? with|some c=>_|none=>_)=_;rw[HG.out,←HSD.out]);have HRX:=xN (show Below wr.heap.size wr (wr.alloc (.cells #[.int .i64 y.yD,.int .i64 y.zK,.int .i64 y.zF,.int .i64 y.yH,.int .i64 y.yB] 39)) from zR.alloc zJ _);have HOX:=xN (show OwI 2 (wr.alloc (.cells #[.int .i64 y.yD,.int .i64 y.zK,.int .i64 y.zF,.int .i64 y.yH,.int .i64 y.yB] 39)) g (.slice (some ⟨g,0,none⟩) n n) (uY y src (vI sources x.zZ n k) 0) from wX HO.out HRX.out);have HBX:=xN (yQ HB.out HB.out.size HRX.out);have HKX:=xN (HK.out.alloc (.cells #[.int .i64 y.yD,.int .i64 y.zK,.int .i64 y.zF,.int .i64 y.yH,.int .i64 y.yB] 39));have HNX:=xN (Bk.born wr 39 #[.int .i64 y.yD,.int .i64 y.zK,.int .i64 y.zF,.int .i64 y.yH,.int .i64 y.yB]);have hgB:g<wr.heap.size:=hgw;have hBX:wr.heap.size<(wr.alloc (.cells #[.int .i64 y.yD,.int .i64 y.zK,.int .i64 y.zF,.int .i64 y.yH,.int .i64 y.yB] 39)).heap.size:=HNX.out.lt;clear ka la;have ka:=HKX.out.cell;have la:=HKX.out.lt;have kn:=HNX.out.cell;have ln:=HNX.out.lt;have hcn:wPz y n=min y.zF.toNat (n - y.yH.toNat):=rfl;go_wp2;generalize hWX:(wr.alloc (.cells #[.int .i64 y.yD,.int .i64 y.zK,.int .i64 y.zF,.int .i64 y.yH,.int .i64 y.yB] 39))=WX at *;clear hWX;generalize hB1:wr.heap.size=B1 at *;have HB1q:=xN hB1;clear hB1
  go_loopw [10] (fun i wr=> ∃ q:Nat,q≤wPz y n∧i= .int .i64 (q:Int)∧OwI 2 wr g (.slice (some ⟨g,0,none⟩) n n) (uY y src (vI sources x.zZ n k) q)∧Below w.heap.size w wr∧Bk wr w.heap.size 96 #[(.slice (some ⟨b1,off,none⟩) x.zZ.length vc0)]∧Bk wr B1 39 #[.int .i64 y.yD,.int .i64 y.zK,.int .i64 y.zF,.int .i64 y.yH,.int .i64 y.yB]) (fun i _=>wPz y n - (intOf i).toNat)
  case atStart=>exact⟨0,Nat.zero_le _,rfl,HOX.out,HBX.out,HKX.out,HNX.out⟩
  case round=>
   obtain⟨q,hq,rfl,ho,hbw,hbk,hbn⟩:=hrel;have HOi:=xN ho;have HBi:=xN hbw;have HKi:=xN hbk;have HNi:=xN hbn;clear ho hbw hbk hbn ka la kn ln;have ka:=HKi.out.cell;have la:=HKi.out.lt;have kn:=HNi.out.cell;have ln:=HNi.out.lt;have hwA:IntKind.i64.wrap (y.yH+(q:Int))=y.yH+(q:Int):=IntWalk.i64_in _ zM;by_cases hlq:q<wPz y n
   rotate_left
   ·
    obtain rfl:q=wPz y n:=by omega
    have hg9:g<wr.heap.size:=(HOi.out.lt g rfl).2;have HREL:=xN (show OwI 2 wr g (.slice (some ⟨g,0,none⟩) n n) (vI sources x.zZ n (k+1)) by rw[HUk.out];exact HOi.out);generalize hcq:wPz y n=cq at *;by_cases hlen:(cq:Int)<y.zF
    ·
     have hno: ¬ (y.yH+(cq:Int)<(n:Int)):=by omega
     go_wp2
     go_roundw
     case rel=>exact⟨k+1,by omega,by go_num,HREL.out,HBi.out,HKi.out,hg9⟩
     case measure=>simp[intOf];omega
    ·
     go_wp2
     go_roundw
     case rel=>exact⟨k+1,by omega,by go_num,HREL.out,HBi.out,HKi.out,hg9⟩
     case measure=>simp[intOf];omega
   have hl1:(q:Int)<y.zF:=by omega
   have hl2:y.yH+(q:Int)<(n:Int):=by omega
   obtain⟨j,hj⟩: ∃ j:Nat,y.yH+(q:Int)=(j:Int):=⟨(y.yH+(q:Int)).toNat,by omega⟩;have hjA:y.yH.toNat+q=j:=by omega
   have hjn:(j:Int)<(n:Int):=by omega
   have hwj:IntKind.i64.wrap (j:Int)=(j:Int):=IntWalk.i64_in _ zM;have HCU:=xN (show uY y src (vI sources x.zZ n k) (q+1)=(uY y src (vI sources x.zZ n k) q).set j (wrp ((uY y src (vI sources x.zZ n k) q).getD j 0+y.yB * vF src (y.zK+(q:Int)))) by rw[←hjA];rfl);have hRl:(uY y src (vI sources x.zZ n k) q).length=n:=by rw[xSz,zJz]
   have HRS:=xN (uAz (c:=y) (src:=src) (xAz (ss:=sources) (l:=x.zZ) (n:=n) k) q);generalize hR:uY y src (vI sources x.zZ n k) q=R at *;have hjl:j<R.length:=by omega
   have HgA:=xN (gE hjl);have ht0:=HRS.out R[j] (List.getElem_mem hjl);have HDA:=xN (show R.getD j 0=R[j] by rw[List.getD_eq_getElem?_getD,HgA.out];rfl);generalize R[j]=t0 at *;have hwF:IntKind.i64.wrap (y.zK+(q:Int))=y.zK+(q:Int):=IntWalk.i64_in _ zM;have hs0:=wJz HSM.out (y.zK+(q:Int));obtain⟨s0,hse⟩: ∃ s0,vF src (y.zK+(q:Int))=s0:=⟨_,rfl⟩;have HAT:=xN (fun(W:World) (hr:RdI W (.slice A5 src.length c5) src)=>(by have:=c_at _ src (y.zK+(q:Int)) W zM hr;rw[hse] at this;exact this:Calls Tryz.prog 198 #[.slice A5 src.length c5,.int .i64 (y.zK+(q:Int))] W fun e w'=>e= .returned (.int .i64 s0)∧W=w'));rw[hse] at hs0 HCU;clear hse;have hm:=zKy HGN.out hs0;have hw1:IntKind.i64.wrap (y.yB * s0)=y.yB * s0:=IntWalk.i64_in _ zM;have hw2:IntKind.i64.wrap (t0+y.yB * s0)=t0+y.yB * s0:=IntWalk.i64_in _ (by unfold Smp at ht0;omega);have hsl2:y.yD<(sources.length:Int):=hso;go_wp2;have HCA:=xN (HOi.out.yJz HgA.out);have HE5:=xN ((HBi.out.cell hb5).trans HE0.out);have HWd:=xN (show (∀ i,wr.drew.cell? ⟨B1,i,none⟩= #[.int .i64 y.yD,.int .i64 y.zK,.int .i64 y.zF,.int .i64 y.yH,.int .i64 y.yB][i]?)∧wr.drew.cell? ⟨g,j,none⟩=some (.int .i64 t0)∧wr.drew.cell? ⟨b5,o5+y.yD.toNat,none⟩=some (.slice A5 src.length c5) from⟨HNi.out.cell,HCA.out,HE5.out⟩);have HOd:=xN (show OwI 2 wr.drew g (.slice (some ⟨g,0,none⟩) n n) R from wX HOi.out (Below.refl wr.heap.size wr).drew);have HBd:=xN HBi.out.drew;have HKd:=xN (Bk.drew HKi.out);have HNd:=xN (Bk.drew HNi.out);have HSd:=xN (show RdI wr.drew (.slice A5 src.length c5) src from RdI.below (RdI.below RS.out HBi.out) (Below.refl wr.heap.size wr).drew);clear ka la kn ln;refine vC (fun w'=>(∀ i,w'.cell? ⟨B1,i,none⟩= #[.int .i64 y.yD,.int .i64 y.zK,.int .i64 y.zF,.int .i64 y.yH,.int .i64 y.yB][i]?)∧w'.cell? ⟨g,j,none⟩=some (.int .i64 t0)∧w'.cell? ⟨b5,o5+y.yD.toNat,none⟩=some (.slice A5 src.length c5)) 28 (by kernel_rfl) ?_ (fun hS0=>?_)
   ·exact HWd.out
   generalize hwd:wr.drew=wd at *;clear hwd;refine zE 0 hS0 ?_;refine zE 1 hS0 ?_;refine zE 2 hS0 ?_;refine zE 3 hS0 ?_;refine zE 4 hS0 ?_;refine zE 5 hS0 ?_;refine zE 6 hS0 ?_;refine zE 7 hS0 ?_;refine zE 8 hS0 ?_;refine zE 9 hS0 ?_;refine zE 10 hS0 ?_;refine zE 11 hS0 ?_;refine zE 12 hS0 ?_;refine zE 13 hS0 ?_;refine zE 14 hS0 ?_;refine zE 15 hS0 ?_;refine zE 16 hS0 ?_;refine zE 17 hS0 ?_;refine zE 18 hS0 ?_;refine zE 19 hS0 ?_;refine zE 20 hS0 ?_;refine zE 21 hS0 ?_;refine zE 22 hS0 ?_;refine pE 23 (fun K hK=>?_);go_simp;go_wp2_with (go_at_call 198;refine(HAT.out _ HSd.out).mono ?_;rintro e w' ⟨rfl,rfl⟩)
   refine uE hK ?_ (fun hS1=>?_)
   ·exact HWd.out
   clear hK K hS0;refine zE 24 hS1 ?_;refine zE 25 hS1 ?_;refine pE 26 (fun K hK=>?_);go_simp;go_wp2_with (go_at_call 242;refine(yTz _ _).mono ?_;rintro e w' ⟨rfl,rfl⟩)
   refine uE hK ?_ (fun hS2=>?_)
   ·exact HWd.out
   clear hK K hS1;refine zE 27 hS2 ?_;refine qE ?_;have ck:=HWd.out.2.1;have fr:=HOd.out.freeN j;go_wp2;have HO2:=xN (HOd.out.setN j (wrp (t0+y.yB * s0)));have HG2:=xN (HOd.out.grownN j (.int .i64 (wrp (t0+y.yB * s0))));have HK2:=xN (HKd.out.far (p:=⟨g,j,none⟩) (show w.heap.size≠g by omega) (.int .i64 (wrp (t0+y.yB * s0))));have HN2:=xN (HNd.out.far (p:=⟨g,j,none⟩) (show B1≠g by omega) (.int .i64 (wrp (t0+y.yB * s0))))
   go_roundw
   case rel=>exact⟨q+1,by omega,by go_num,by rw[HCU.out,HDA.out];exact HO2.out,HBd.out.grown HG2.out HBd.out.size (fun j hj=>by injection hj with hj;omega),HK2.out,HN2.out⟩
   case measure=>simp[intOf];omega
end
section
open Go.RowKit
theorem uDz (x:wG) (b o:Nat) (w:World) (hM:uP x) (hg:x.good) (h:T.at w x.fs b o):Calls Tryz.prog 182 #[.pointer (some ⟨b,o,none⟩)] w fun e w'=> ∃ v,e= .returned v∧OwI 2 w' w.heap.size v (wQ x)∧Below w.heap.size w w':=by
 have HAT:=xN h;obtain⟨hlt0,cs,hr,hc⟩:=h;obtain⟨v0,rfl,h0⟩:=wG.yV hr;clear hr;obtain⟨va0,vc0,rfl,vl0,vm0,R0,HX0⟩:=oG h0;clear h0;have HL:=xN hlt0;have HCC:=xN hc;have HB0:=xN (Below.refl w.heap.size w);clear hlt0 hc;have HM:=xN hM;have HGD:=xN hg;have hn8:x.zD.length≤8:=hM.few;clear hM hg;have HUP:=xN (fun k=>wVz (l:=x.zD) (fun y hy=>by obtain⟨i,hi⟩:=List.mem_iff_getElem?.1 hy;exact zBz.1 (HM.out.each i y hi).1.latency) (fun i y hy s hs e=>by obtain⟨k,hk⟩:=List.mem_iff_getElem?.1 hs;have:=(zFz HM.out hy k s hk).1;omega) k);have p0:w.cell? ⟨b,o,none⟩=some (.slice va0 x.zD.length vc0):=(HB0.out.cell HL.out).trans (HCC.out 0 _ rfl);have lb:b<w.heap.size:=zW HL.out HB0.out.size;obtain⟨i0,hi,hz0,hz1,hz2⟩:=info_parts xWz
 go_enter Tryz.func182,Tryz.ntmps182
 go_wp2_with (at_make;refine wpList_make_full _ rfl _ _ _ rfl w.heap.size 2 i0 _ 1 Tryz.underlying26 hi hz0 hz1 .i64 .i64 _ _ x.zD.length rfl rfl rfl rfl (by rw[hz2];omega) (by unfold maxLen;omega) zJ ?_;intro w1 hown1 hg1)
 have HO1:=xN (show OwI 2 w1 w.heap.size (.slice (some ⟨w.heap.size,0,none⟩) x.zD.length x.zD.length) (vY x.zD 0) from OwI.made _ w1 (n:=x.zD.length) hg1.size (by unfold maxLen;omega) 0 hown1);have HB1:=xN (show Below w.heap.size w w1 from zR.grown hg1 zJ (by simp));clear hown1 hg1 p0 lb hi hz0 hz1 hz2;have p0:w1.cell? ⟨b,o,none⟩=some (.slice va0 x.zD.length vc0):=(HB1.out.cell HL.out).trans (HCC.out 0 _ rfl);have lb:b<w1.heap.size:=zW HL.out HB1.out.size;go_wp2
 go_loopw [4] (fun i wr=> ∃ k:Nat,k≤x.zD.length∧i= .int .i64 (k:Int)∧OwI 2 wr w.heap.size (.slice (some ⟨w.heap.size,0,none⟩) x.zD.length x.zD.length) (vY x.zD k)∧Below w.heap.size w wr) (fun i _=>x.zD.length - (intOf i).toNat)
 case atStart=>exact⟨0,Nat.zero_le _,rfl,HO1.out,HB1.out⟩
 case round=>
  obtain⟨k,hk,rfl,ho,hbw⟩:=hrel;have HO:=xN ho;have HB:=xN hbw;clear ho hbw p0 lb;have p0:wr.cell? ⟨b,o,none⟩=some (.slice va0 x.zD.length vc0):=(HB.out.cell HL.out).trans (HCC.out 0 _ rfl);have lb:b<wr.heap.size:=zW HL.out HB.out.size;by_cases hlt:k<x.zD.length
  rotate_left
  ·
   obtain rfl:k=x.zD.length:=by omega
   go_wp2;go_ret
   exact⟨_,rfl,HO.out,HB.out⟩
  have hgk:=gE hlt;obtain⟨b1,off,csy,hA,hb1,hcs,hcell⟩:=HX0.out k x.zD[k] hgk;subst hA;generalize x.zD[k]=y at *;have HG:=xN hgk;clear hgk;have HAy:=xN (T.at_elem (o:=off+k * 3) hb1 (show T.rds w y.fs csy by simpa only[xP.t,T.rd] using hcs) hcell zM);clear hcs hcell;clear p0 lb;have p0:wr.cell? ⟨b,o,none⟩=some (.slice (some ⟨b1,off,none⟩) x.zD.length vc0):=(HB.out.cell HL.out).trans (HCC.out 0 _ rfl);have lb:b<wr.heap.size:=zW HL.out HB.out.size;obtain⟨lty,csy',hry,hcy⟩:=HAy.out;obtain⟨u2,rfl,hu2⟩:=xP.yV hry;have Ru2:=xN hu2;obtain⟨ua2,uc2,rfl,ul2,um2,ux2⟩:=T.yU hu2;have HXu2:=xN ux2;clear ux2 hu2;have HCy:=xN hcy;clear hry hcy;have cy0:wr.cell? ⟨b1,off+k * 3,none⟩=some (.string y.yE):=(HB.out.cell lty).trans (HCy.out 0 _ rfl);have cy1:wr.cell? ⟨b1,off+k * 3+1,none⟩=some (.int .i64 y.zU):=(HB.out.cell lty).trans (HCy.out 1 _ rfl);have cy2:wr.cell? ⟨b1,off+k * 3+2,none⟩=some (.slice ua2 y.zY.length uc2):=(HB.out.cell lty).trans (HCy.out 2 _ rfl);have HNM:=xN (HM.out.each k y HG.out).1;have hlat:=zBz.1 HNM.out.latency;have lb1:b1<wr.heap.size:=zW hb1 HB.out.size;have HUk:=xN (show vY x.zD (k+1)=zUz k y.zU (vY x.zD k) y.zY y.zY.length by show (match x.zD[k]? with|some x=>_|none=>_)=_;rw[HG.out]);go_wp2
  go_loopw [6] (fun i wr=> ∃ q:Nat,q≤y.zY.length∧i= .int .i64 (q:Int)∧OwI 2 wr w.heap.size (.slice (some ⟨w.heap.size,0,none⟩) x.zD.length x.zD.length) (zUz k y.zU (vY x.zD k) y.zY q)∧Below w.heap.size w wr) (fun i _=>y.zY.length - (intOf i).toNat)
  case atStart=>exact⟨0,Nat.zero_le _,rfl,HO.out,HB.out⟩
  case round=>
   obtain⟨q,hq,rfl,ho,hbw⟩:=hrel;have HOi:=xN ho;have HBi:=xN hbw;clear ho hbw p0 lb cy0 cy1 cy2;have p0:wr.cell? ⟨b,o,none⟩=some (.slice (some ⟨b1,off,none⟩) x.zD.length vc0):=(HBi.out.cell HL.out).trans (HCC.out 0 _ rfl);have lb:b<wr.heap.size:=zW HL.out HBi.out.size;have cy0:wr.cell? ⟨b1,off+k * 3,none⟩=some (.string y.yE):=(HBi.out.cell lty).trans (HCy.out 0 _ rfl);have cy1:wr.cell? ⟨b1,off+k * 3+1,none⟩=some (.int .i64 y.zU):=(HBi.out.cell lty).trans (HCy.out 1 _ rfl);have cy2:wr.cell? ⟨b1,off+k * 3+2,none⟩=some (.slice ua2 y.zY.length uc2):=(HBi.out.cell lty).trans (HCy.out 2 _ rfl);have lb1':b1<wr.heap.size:=zW hb1 HBi.out.size;by_cases hlq:q<y.zY.length
   rotate_left
   ·
    obtain rfl:q=y.zY.length:=by omega
    go_wp2
    go_roundw
    case rel=>exact⟨k+1,by omega,by go_num,by rw[HUk.out];exact HOi.out,HBi.out⟩
    case measure=>simp[intOf];omega
   have hgq:=gE hlq;obtain⟨b2,off2,cs2,hA2,hb2,hcs2,hcell2⟩:=HXu2.out q y.zY[q] hgq;subst hA2;generalize y.zY[q]=z at *;have HGZ:=xN hgq;clear hgq;obtain rfl:=xV.yV (show T.rds _ _ _ by simpa only[xV.t,T.rd] using hcs2);have s0:=(HBi.out.cell hb2).trans (hcell2 0 (.int .i64 z.yG) rfl);have s1:=(HBi.out.cell hb2).trans (hcell2 1 (.int .i64 z.yB) rfl);rw[show off2+(q * 2+0)=off2+q * 2 by omega] at s0;rw[show off2+(q * 2+1)=off2+q * 2+1 by omega] at s1;clear hcs2 hcell2;have lb2:b2<wr.heap.size:=zW hb2 HBi.out.size;obtain⟨t0,t1,_⟩:=zFz HM.out HG.out q z HGZ.out;have n0:0≤z.yG:=by omega
   have HES:=xN (show zUz k y.zU (vY x.zD k) y.zY (q+1)=(zUz k y.zU (vY x.zD k) y.zY q).set z.yG.toNat (max ((zUz k y.zU (vY x.zD k) y.zY q).getD z.yG.toNat 0) ((zUz k y.zU (vY x.zD k) y.zY q).getD k 0+y.zU)) by show (match y.zY[q]? with|some s=>_|none=>_)=_;rw[HGZ.out]);have hUq:=((uBz (i:=k) (lat:=y.zU) (out:=vY x.zD k) (l:=y.zY) (B:=32 * ((k+1:Nat):Int)) (fun j=>(HUP.out k j).1) (by have:=(HUP.out k k).2;omega) hlat.1 ((HUP.out k).mono zM) (fun s hs e=>by obtain⟨j,hj⟩:=List.mem_iff_getElem?.1 hs;have:=(zFz HM.out HG.out j s hj).1;omega) q).1) k;have HUq:=xN hUq;clear hUq;have hlen:(zUz k y.zU (vY x.zD k) y.zY q).length=x.zD.length:=by rw[xBz,yHz]
   generalize hR:zUz k y.zU (vY x.zD k) y.zY q=R at *;have hzt:z.yG.toNat<R.length:=by omega
   have hkt:k<R.length:=by omega
   have HgA:=xN (gE hzt);have HgB:=xN (gE hkt);have ca:=HOi.out.yJz HgA.out;have cb:=HOi.out.yJz HgB.out;have fr:=HOi.out.freeN z.yG.toNat;have HDA:=xN (show R.getD z.yG.toNat 0=R[z.yG.toNat] by rw[List.getD_eq_getElem?_getD,HgA.out];rfl);have HDB:=xN (show R.getD k 0=R[k] by rw[List.getD_eq_getElem?_getD,HgB.out];rfl);generalize R[z.yG.toNat]=ta at *;generalize R[k]=tb at *;have hbd:0≤tb∧tb≤1000:=by have h:=HUq.out;rw[HDB.out] at h;omega
   have hw:IntKind.i64.wrap (tb+y.zU)=tb+y.zU:=IntWalk.i64_in _ zM;have la:=HOi.out.lt w.heap.size rfl;have la2:=la.2;go_wp2;have HWd:=xN (show (wr.drew.cell? ⟨w.heap.size,z.yG.toNat,none⟩=some (.int .i64 ta))∧(wr.drew.cell? ⟨w.heap.size,k,none⟩=some (.int .i64 tb))∧(wr.drew.cell? ⟨b1,off+k * 3+1,none⟩=some (.int .i64 y.zU)) from⟨ca,cb,cy1⟩);have HOd:=xN (show OwI 2 wr.drew w.heap.size (.slice (some ⟨w.heap.size,0,none⟩) x.zD.length x.zD.length) R from wX HOi.out (Below.refl wr.heap.size wr).drew);have HBd:=xN HBi.out.drew;have frd:wr.drew.frozen? ⟨w.heap.size,z.yG.toNat,none⟩=false:=fr;clear ca cb cy0 cy1 cy2 p0 lb fr s0 s1 la la2;refine vC (fun w'=>(w'.cell? ⟨w.heap.size,z.yG.toNat,none⟩=some (.int .i64 ta))∧(w'.cell? ⟨w.heap.size,k,none⟩=some (.int .i64 tb))∧(w'.cell? ⟨b1,off+k * 3+1,none⟩=some (.int .i64 y.zU))) 17 (by kernel_rfl) ?_ (fun hS0=>?_)
   ·exact HWd.out
   generalize hwd:wr.drew=wd at *;clear hwd;refine zE 0 hS0 ?_;refine zE 1 hS0 ?_;refine zE 2 hS0 ?_;refine zE 3 hS0 ?_;refine zE 4 hS0 ?_;refine zE 5 hS0 ?_;refine zE 6 hS0 ?_;refine zE 7 hS0 ?_;refine zE 8 hS0 ?_;refine zE 9 hS0 ?_;refine zE 10 hS0 ?_;refine zE 11 hS0 ?_;refine zE 12 hS0 ?_;refine zE 13 hS0 ?_;refine zE 14 hS0 ?_;refine pE 15 (fun K hK=>?_);go_simp;go_wp2_with (go_at_call 213;refine(c_qMax _ _ _).mono ?_;rintro e w' ⟨rfl,rfl⟩)
   refine uE hK ?_ (fun hS1=>?_)
   ·exact HWd.out
   clear hK K hS0;refine zE 16 hS1 ?_;refine qE ?_;have ck:=HWd.out.1;go_wp2;have HO2:=xN (HOd.out.setN z.yG.toNat (max ta (tb+y.zU)));have HG2:=xN (HOd.out.grownN z.yG.toNat (.int .i64 (max ta (tb+y.zU))))
   go_roundw
   case rel=>exact⟨q+1,by omega,by go_num,by rw[HES.out,HDA.out,HDB.out];exact HO2.out,HBd.out.grown HG2.out HBd.out.size (fun j hj=>by injection hj with hj;omega)⟩
   case measure=>simp[intOf];omega
end
section
open Go.RowKit
theorem rd_elems2 {w:World} {E:TypeId} {sz n c:Nat} {α:Type} {tr:α→T} {xs:List α} {A:Option Addr} (h:T.rd w (.sl E sz (xs.map tr)) [.slice A n c]):
  ∀ k x,xs[k]?=some x→ ∃ b off cs,A=some ⟨b,off,none⟩∧b<w.heap.size∧T.rd w (tr x) cs∧ ∀ j u,cs[j]?=some u→w.cell? ⟨b,off+(k * sz+j),none⟩=some u:=by
 obtain⟨A',c',e,_,_,h2⟩:=T.yU h;injection e with e1 e2 e3;subst e1;exact h2
theorem c_entries (x:wG) (cs:List Value) (w:World) (hM:uP x) (hg:x.good) (h:T.rds w x.fs cs):Calls Tryz.prog 191 #[.agg cs.toArray] w fun e w'=> ∃ v,e= .returned v∧OwI 2 w' w.heap.size v (wQ x)∧Below w.heap.size w w':=by
 obtain⟨v0,rfl,h0⟩:=wG.yV h;clear h;obtain⟨va0,vc0,rfl,vl0,vm0,R0,HX0⟩:=oG h0;clear h0;have HB0:=xN (show Below w.heap.size w (w.alloc (.cells #[(.slice va0 x.zD.length vc0)] 30)) from zR.alloc zJ _);have HK0:=xN (Bk.born w 30 #[(.slice va0 x.zD.length vc0)]);have HM:=xN hM;have HGD:=xN hg;have hn8:x.zD.length≤8:=hM.few;clear hM hg;have HUP:=xN (fun k=>wVz (l:=x.zD) (fun y hy=>by obtain⟨i,hi⟩:=List.mem_iff_getElem?.1 hy;exact zBz.1 (HM.out.each i y hi).1.latency) (fun i y hy s hs e=>by obtain⟨k,hk⟩:=List.mem_iff_getElem?.1 hs;have:=(zFz HM.out hy k s hk).1;omega) k)
 go_enter Tryz.func191,Tryz.ntmps191
 go_wp2_with (go_at_call 102;refine(uT _ _ _ _ zM).mono ?_;rintro e w' ⟨rfl,rfl⟩)
 refine(uR x.zD.length _ zM).mono ?_;rintro e w1 ⟨rfl,ho,hd⟩;have HOz:=xN ho;clear ho;have hb:Below (w.alloc (.cells #[(.slice va0 x.zD.length vc0)] 30)).heap.size (w.alloc (.cells #[(.slice va0 x.zD.length vc0)] 30)) w1:=by first|exact hd|exact hd.to_below _|exact hd ▸ zR
 have HK1:=xN (HK0.out.below hb HK0.out.lt);have HB1:=xN (yQ HB0.out HB0.out.size hb);clear hb hd;have ka:=HK1.out.cell;have la:=HK1.out.lt;have hgz:w.heap.size<(w.alloc (.cells #[(.slice va0 x.zD.length vc0)] 30)).heap.size:=by simp
 generalize (w.alloc (.cells #[(.slice va0 x.zD.length vc0)] 30)).heap.size=g at *;have HO1:=xN (show OwI 2 w1 g (.slice (some ⟨g,0,none⟩) x.zD.length x.zD.length) (vY x.zD 0) from HOz.out);have hg1:g<w1.heap.size:=(HOz.out.lt g rfl).2;clear HOz;go_wp2
 go_loopw [15] (fun i wr=> ∃ k:Nat,k≤x.zD.length∧i= .int .i64 (k:Int)∧OwI 2 wr g (.slice (some ⟨g,0,none⟩) x.zD.length x.zD.length) (vY x.zD k)∧Below w.heap.size w wr∧Bk wr w.heap.size 30 #[(.slice va0 x.zD.length vc0)]∧g<wr.heap.size) (fun i _=>x.zD.length - (intOf i).toNat)
 case atStart=>exact⟨0,Nat.zero_le _,rfl,HO1.out,HB1.out,HK1.out,hg1⟩
 case round=>
  obtain⟨k,hk,rfl,ho,hbw,hbk,hgw⟩:=hrel;have HO:=xN ho;have HB:=xN hbw;have HK:=xN hbk;clear ho hbw hbk ka la;have ka:=HK.out.cell;have la:=HK.out.lt;by_cases hlt:k<x.zD.length
  rotate_left
  ·
   obtain rfl:k=x.zD.length:=by omega
   go_wp2;go_ret
   exact⟨_,rfl,wU HO.out zM,HB.out⟩
  have hgk:=gE hlt;obtain⟨b1,off,cs1,hA,hb1,hcs,hcell⟩:=HX0.out k x.zD[k] hgk;subst hA;generalize x.zD[k]=y at *;have HG:=xN hgk;clear hgk;obtain⟨u2,rfl,hRY2⟩:=xP.yV (show T.rds _ _ _ by simpa only[xP.t,T.rd] using hcs);have d0:=(HB.out.cell hb1).trans (hcell 0 (.string y.yE) rfl);have d1:=(HB.out.cell hb1).trans (hcell 1 (.int .i64 y.zU) rfl);have d2:=(HB.out.cell hb1).trans (hcell 2 (u2) rfl);rw[show off+(k * 3+0)=off+k * 3 by omega] at d0;rw[show off+(k * 3+1)=off+k * 3+1 by omega] at d1;rw[show off+(k * 3+2)=off+k * 3+2 by omega] at d2;have RY2:=xN (T.yM hRY2 HB.out);clear hRY2;clear hcs hcell;obtain⟨ua2,uc2,rfl,ul2,um2,ux2⟩:=T.yU RY2.out;clear ux2;have hq1:b1<wr.heap.size:=zW hb1 HB.out.size;obtain⟨b9,o9,cs9,hA9,hb9,hcs9,hcell9⟩:=HX0.out k y HG.out;obtain⟨rfl,rfl⟩:b1=b9∧off=o9:=by injection hA9 with e;injection e with e1 e2;exact⟨e1,e2⟩
  obtain⟨v9,rfl,hv9⟩:=xP.yV (show T.rds _ _ _ by simpa only[xP.t,T.rd] using hcs9);have e9:=(HB.out.cell hb9).trans (hcell9 2 v9 rfl);rw[show off+(k * 3+2)=off+k * 3+2 by omega] at e9;obtain rfl:v9= .slice ua2 y.zY.length uc2:=Option.some.inj (e9.symm.trans d2);have UX2:=xN (rd_elems2 hv9);clear hv9 e9 hcell9 hcs9 hA9;have HNM:=xN (HM.out.each k y HG.out).1;have hlat:=zBz.1 HNM.out.latency;have HUk:=xN (show vY x.zD (k+1)=zUz k y.zU (vY x.zD k) y.zY y.zY.length by show (match x.zD[k]? with|some x=>_|none=>_)=_;rw[HG.out]);have HRX:=xN (show Below wr.heap.size wr (wr.alloc (.cells #[.string y.yE,.int .i64 y.zU,(.slice ua2 y.zY.length uc2)] 101)) from zR.alloc zJ _);have HOX:=xN (show OwI 2 (wr.alloc (.cells #[.string y.yE,.int .i64 y.zU,(.slice ua2 y.zY.length uc2)] 101)) g (.slice (some ⟨g,0,none⟩) x.zD.length x.zD.length) (zUz k y.zU (vY x.zD k) y.zY 0) from wX HO.out HRX.out);have HBX:=xN (yQ HB.out HB.out.size HRX.out);have HKX:=xN (HK.out.alloc (.cells #[.string y.yE,.int .i64 y.zU,(.slice ua2 y.zY.length uc2)] 101));have HNX:=xN (Bk.born wr 101 #[.string y.yE,.int .i64 y.zU,(.slice ua2 y.zY.length uc2)]);have hgB:g<wr.heap.size:=hgw;have hBX:wr.heap.size<(wr.alloc (.cells #[.string y.yE,.int .i64 y.zU,(.slice ua2 y.zY.length uc2)] 101)).heap.size:=HNX.out.lt;clear ka la;have ka:=HKX.out.cell;have la:=HKX.out.lt;have kn:=HNX.out.cell;have ln:=HNX.out.lt;go_wp2;generalize hWX:(wr.alloc (.cells #[.string y.yE,.int .i64 y.zU,(.slice ua2 y.zY.length uc2)] 101))=WX at *;clear hWX;generalize hB1:wr.heap.size=B1 at *;have HB1q:=xN hB1;clear hB1
  go_loopw [23] (fun i wr=> ∃ q:Nat,q≤y.zY.length∧i= .int .i64 (q:Int)∧OwI 2 wr g (.slice (some ⟨g,0,none⟩) x.zD.length x.zD.length) (zUz k y.zU (vY x.zD k) y.zY q)∧Below w.heap.size w wr∧Bk wr w.heap.size 30 #[(.slice (some ⟨b1,off,none⟩) x.zD.length vc0)]∧Bk wr B1 101 #[.string y.yE,.int .i64 y.zU,(.slice ua2 y.zY.length uc2)]) (fun i _=>y.zY.length - (intOf i).toNat)
  case atStart=>exact⟨0,Nat.zero_le _,rfl,HOX.out,HBX.out,HKX.out,HNX.out⟩
  case round=>
   obtain⟨q,hq,rfl,ho,hbw,hbk,hbn⟩:=hrel;have HOi:=xN ho;have HBi:=xN hbw;have HKi:=xN hbk;have HNi:=xN hbn;clear ho hbw hbk hbn ka la kn ln;have ka:=HKi.out.cell;have la:=HKi.out.lt;have kn:=HNi.out.cell;have ln:=HNi.out.lt;by_cases hlq:q<y.zY.length
   rotate_left
   ·
    obtain rfl:q=y.zY.length:=by omega
    have hg9:g<wr.heap.size:=(HOi.out.lt g rfl).2;go_wp2
    go_roundw
    case rel=>exact⟨k+1,by omega,by go_num,by rw[HUk.out];exact HOi.out,HBi.out,HKi.out,hg9⟩
    case measure=>simp[intOf];omega
   have hgq:=gE hlq;obtain⟨b2,off2,cs2,hA2,hb2,hcs2,hcell2⟩:=UX2.out q y.zY[q] hgq;subst hA2;generalize y.zY[q]=z at *;have HGZ:=xN hgq;clear hgq;obtain rfl:=xV.yV (show T.rds _ _ _ by simpa only[xV.t,T.rd] using hcs2);have s0:=(HBi.out.cell hb2).trans (hcell2 0 (.int .i64 z.yG) rfl);have s1:=(HBi.out.cell hb2).trans (hcell2 1 (.int .i64 z.yB) rfl);rw[show off2+(q * 2+0)=off2+q * 2 by omega] at s0;rw[show off2+(q * 2+1)=off2+q * 2+1 by omega] at s1;clear hcs2 hcell2;have lb2:b2<wr.heap.size:=zW hb2 HBi.out.size;obtain⟨t0,t1,_⟩:=zFz HM.out HG.out q z HGZ.out;have n0:0≤z.yG:=by omega
   have HES:=xN (show zUz k y.zU (vY x.zD k) y.zY (q+1)=(zUz k y.zU (vY x.zD k) y.zY q).set z.yG.toNat (max ((zUz k y.zU (vY x.zD k) y.zY q).getD z.yG.toNat 0) ((zUz k y.zU (vY x.zD k) y.zY q).getD k 0+y.zU)) by show (match y.zY[q]? with|some s=>_|none=>_)=_;rw[HGZ.out]);have hUq:=((uBz (i:=k) (lat:=y.zU) (out:=vY x.zD k) (l:=y.zY) (B:=32 * ((k+1:Nat):Int)) (fun j=>(HUP.out k j).1) (by have:=(HUP.out k k).2;omega) hlat.1 ((HUP.out k).mono zM) (fun s hs e=>by obtain⟨j,hj⟩:=List.mem_iff_getElem?.1 hs;have:=(zFz HM.out HG.out j s hj).1;omega) q).1) k;have HUq:=xN hUq;clear hUq;have hlen:(zUz k y.zU (vY x.zD k) y.zY q).length=x.zD.length:=by rw[xBz,yHz]
   generalize hR:zUz k y.zU (vY x.zD k) y.zY q=R at *;have hzt:z.yG.toNat<R.length:=by omega
   have hkt:k<R.length:=by omega
   have HgA:=xN (gE hzt);have HgB:=xN (gE hkt);have HDA:=xN (show R.getD z.yG.toNat 0=R[z.yG.toNat] by rw[List.getD_eq_getElem?_getD,HgA.out];rfl);have HDB:=xN (show R.getD k 0=R[k] by rw[List.getD_eq_getElem?_getD,HgB.out];rfl);generalize R[z.yG.toNat]=ta at *;generalize R[k]=tb at *;have hbd:0≤tb∧tb≤1000:=by have h:=HUq.out;rw[HDB.out] at h;omega
   have hw:IntKind.i64.wrap (tb+y.zU)=tb+y.zU:=IntWalk.i64_in _ zM;have HAZ:=xN (show Below wr.heap.size wr (wr.alloc (.cells #[.int .i64 z.yG,.int .i64 z.yB] 98)) from zR.alloc zJ _);have HOz:=xN (show OwI 2 (wr.alloc (.cells #[.int .i64 z.yG,.int .i64 z.yB] 98)) g (.slice (some ⟨g,0,none⟩) x.zD.length x.zD.length) R from wX HOi.out HAZ.out);have HBz:=xN (yQ HBi.out HBi.out.size HAZ.out);have HKz:=xN (HKi.out.alloc (.cells #[.int .i64 z.yG,.int .i64 z.yB] 98));have HNz:=xN (HNi.out.alloc (.cells #[.int .i64 z.yG,.int .i64 z.yB] 98));have HZz:=xN (Bk.born wr 98 #[.int .i64 z.yG,.int .i64 z.yB]);have hg8:g<wr.heap.size:=(HOi.out.lt g rfl).2;clear ka la kn ln;have ka:=HKz.out.cell;have la:=HKz.out.lt;have kn:=HNz.out.cell;have ln:=HNz.out.lt;have kz:=HZz.out.cell;have lz:=HZz.out.lt;go_wp2;generalize hWZ:(wr.alloc (.cells #[.int .i64 z.yG,.int .i64 z.yB] 98))=WZ at *;clear hWZ;generalize hB2:wr.heap.size=B2 at *;clear hB2 ka la kn ln kz lz s0 s1;have HCA:=xN (HOz.out.yJz HgA.out);have HCB:=xN (HOz.out.yJz HgB.out);have HFR:=xN (HOz.out.freeN z.yG.toNat);have HWd:=xN (show (∀ i,WZ.drew.cell? ⟨B2,i,none⟩= #[.int .i64 z.yG,.int .i64 z.yB][i]?)∧(∀ i,WZ.drew.cell? ⟨B1,i,none⟩= #[.string y.yE,.int .i64 y.zU,(.slice (some ⟨b2,off2,none⟩) y.zY.length uc2)][i]?)∧WZ.drew.cell? ⟨g,z.yG.toNat,none⟩=some (.int .i64 ta)∧WZ.drew.cell? ⟨g,k,none⟩=some (.int .i64 tb) from⟨HZz.out.cell,HNz.out.cell,HCA.out,HCB.out⟩);have HOd:=xN (show OwI 2 WZ.drew g (.slice (some ⟨g,0,none⟩) x.zD.length x.zD.length) R from wX HOz.out (Below.refl WZ.heap.size WZ).drew);have HBd:=xN HBz.out.drew;have HKd:=xN (Bk.drew HKz.out);have HNd:=xN (Bk.drew HNz.out);have hmx:ta<tb+y.zU∨ ¬ ta<tb+y.zU:=by omega
   rcases hmx with hmx|hmx
   ·
    have HMX:=xN (show max ta (tb+y.zU)=tb+y.zU by omega);refine vC (fun w'=>(∀ i,w'.cell? ⟨B2,i,none⟩= #[.int .i64 z.yG,.int .i64 z.yB][i]?)∧(∀ i,w'.cell? ⟨B1,i,none⟩= #[.string y.yE,.int .i64 y.zU,(.slice (some ⟨b2,off2,none⟩) y.zY.length uc2)][i]?)∧w'.cell? ⟨g,z.yG.toNat,none⟩=some (.int .i64 ta)∧w'.cell? ⟨g,k,none⟩=some (.int .i64 tb)) 17 (by kernel_rfl) ?_ (fun hS0=>?_)
    ·exact HWd.out
    generalize hwd:WZ.drew=wd at *;clear hwd;refine zE 0 hS0 ?_;refine zE 1 hS0 ?_;refine zE 2 hS0 ?_;refine zE 3 hS0 ?_;refine zE 4 hS0 ?_;refine zE 5 hS0 ?_;refine zE 6 hS0 ?_;refine zE 7 hS0 ?_;refine zE 8 hS0 ?_;refine zE 9 hS0 ?_;refine zE 10 hS0 ?_;refine zE 11 hS0 ?_;refine zE 12 hS0 ?_;refine zE 13 hS0 ?_;refine zE 14 hS0 ?_;refine zE 15 hS0 ?_;refine zE 16 hS0 ?_;refine qE ?_;have ck:=HWd.out.2.2.1;have fr:=HOd.out.freeN z.yG.toNat;go_wp2;have HO2:=xN (HOd.out.setN z.yG.toNat (tb+y.zU));have HG2:=xN (HOd.out.grownN z.yG.toNat (.int .i64 (tb+y.zU)));have HK2:=xN (HKd.out.far (p:=⟨g,z.yG.toNat,none⟩) (show w.heap.size≠g by omega) (.int .i64 (tb+y.zU)));have HN2:=xN (HNd.out.far (p:=⟨g,z.yG.toNat,none⟩) (show B1≠g by omega) (.int .i64 (tb+y.zU)))
    go_roundw
    case rel=>exact⟨q+1,by omega,by go_num,by rw[HES.out,HDA.out,HDB.out,HMX.out];exact HO2.out,HBd.out.grown HG2.out HBd.out.size (fun j hj=>by injection hj with hj;omega),HK2.out,HN2.out⟩
    case measure=>simp[intOf];omega
   ·
    have HMX:=xN (show max ta (tb+y.zU)=ta by omega);refine vC (fun w'=>(∀ i,w'.cell? ⟨B2,i,none⟩= #[.int .i64 z.yG,.int .i64 z.yB][i]?)∧(∀ i,w'.cell? ⟨B1,i,none⟩= #[.string y.yE,.int .i64 y.zU,(.slice (some ⟨b2,off2,none⟩) y.zY.length uc2)][i]?)∧w'.cell? ⟨g,z.yG.toNat,none⟩=some (.int .i64 ta)∧w'.cell? ⟨g,k,none⟩=some (.int .i64 tb)) 17 (by kernel_rfl) ?_ (fun hS0=>?_)
    ·exact HWd.out
    generalize hwd:WZ.drew=wd at *;clear hwd;refine zE 0 hS0 ?_;refine zE 1 hS0 ?_;refine zE 2 hS0 ?_;refine zE 3 hS0 ?_;refine zE 4 hS0 ?_;refine zE 5 hS0 ?_;refine zE 6 hS0 ?_;refine zE 7 hS0 ?_;refine zE 8 hS0 ?_;refine zE 9 hS0 ?_;refine zE 10 hS0 ?_;refine zE 11 hS0 ?_;refine zE 12 hS0 ?_;refine zE 13 hS0 ?_;refine zE 14 hS0 ?_;refine zE 15 hS0 ?_;refine zE 16 hS0 ?_;refine qE ?_;have ck:=HWd.out.2.2.1;have fr:=HOd.out.freeN z.yG.toNat;go_wp2;have HO2:=xN (HOd.out.setN z.yG.toNat ta);have HG2:=xN (HOd.out.grownN z.yG.toNat (.int .i64 ta));have HK2:=xN (HKd.out.far (p:=⟨g,z.yG.toNat,none⟩) (show w.heap.size≠g by omega) (.int .i64 ta));have HN2:=xN (HNd.out.far (p:=⟨g,z.yG.toNat,none⟩) (show B1≠g by omega) (.int .i64 ta))
    go_roundw
    case rel=>exact⟨q+1,by omega,by go_num,by rw[HES.out,HDA.out,HDB.out,HMX.out];exact HO2.out,HBd.out.grown HG2.out HBd.out.size (fun j hj=>by injection hj with hj;omega),HK2.out,HN2.out⟩
    case measure=>simp[intOf];omega
end
section
open Go.RowKit
theorem total_facts {x:wG} (h:uP x): ∃ (a:Int) (y:xP),x.zD[x.zD.length - 1]?=some y∧(wQ x)[x.zD.length - 1]?=some a∧0≤a∧a≤256∧0≤y.zU∧y.zU≤32∧uI x=a+y.zU∧1≤x.zD.length∧x.zD.length≤8:=by
 have h1:=h.some_;have h8:=h.few;have hl:x.zD.length - 1<x.zD.length:=by omega
 have hg:=gE hl;have hl2:x.zD.length - 1<(wQ x).length:=by rw[vX];exact hl
 have hg2:=gE hl2;have hu:=yAz h (x.zD.length - 1);have hlat:=zBz.1 (h.each _ _ hg).1.latency;rw[List.getD_eq_getElem?_getD,hg2] at hu;refine⟨_,_,hg,hg2,hu.1,hu.2,hlat.1,hlat.2,?_,h1,h8⟩;unfold uI;rw[List.getD_eq_getElem?_getD,hg2,List.getD_eq_getElem?_getD,hg]
 rfl
theorem c_l26Total (x:wG) (b o:Nat) (w:World) (hM:uP x) (hg:x.good) (h:T.at w x.fs b o):Calls Tryz.prog 129 #[.pointer (some ⟨b,o,none⟩)] w fun e w'=>e= .returned (.int .i64 (uI x))∧Below w.heap.size w w':=by
 have HAT:=xN h;obtain⟨hlt0,cs,hr,hc⟩:=h;obtain⟨v0,rfl,h0⟩:=wG.yV hr;clear hr;obtain⟨va0,vc0,rfl,vl0,vm0,R0,HX0⟩:=oG h0;clear h0;have HL:=xN hlt0;have HCC:=xN hc;have HB0:=xN (Below.refl w.heap.size w);clear hlt0 hc;obtain⟨ta,y,hgy,hga,a0,a1,l0,l1,ht,n1,n8⟩:=total_facts hM;have HT:=xN ht;have HGA:=xN hga;clear ht hga;have HCE:=xN (fun(W:World) (h:T.at W x.fs b o)=>uDz x b o W hM hg h);obtain⟨b1,off,cs1,rfl,hb1,hcs,hcell⟩:=HX0.out _ y hgy;obtain⟨v9,rfl,hv9⟩:=xP.yV (show T.rds _ _ _ by simpa only[xP.t,T.rd] using hcs);have e1:=hcell 1 _ rfl;obtain⟨m,hm⟩: ∃ m:Nat,x.zD.length - 1=m:=⟨_,rfl⟩;rw[hm] at e1 HGA;rw[show off+(m * 3+1)=off+m * 3+1 by omega] at e1;have hm1:(x.zD.length:Int) - 1=(m:Int):=by omega
 have hw0:IntKind.i64.wrap ((x.zD.length:Int) - 1)=(m:Int):=by rw[hm1];exact IntWalk.i64_in _ zM
 have hw:IntKind.i64.wrap (ta+y.zU)=ta+y.zU:=IntWalk.i64_in _ zM;have hml:(m:Int)<(x.zD.length:Int):=by omega
 have HMM:=xN hm;have HM1:=xN hm1;clear hm hm1 hcell hcs hv9 hgy hM hg;have p0:w.cell? ⟨b,o,none⟩=some (.slice (some ⟨b1,off,none⟩) x.zD.length vc0):=(HB0.out.cell HL.out).trans (HCC.out 0 _ rfl);have lb:b<w.heap.size:=zW HL.out HB0.out.size;generalize uI x=OO at *
 go_enter Tryz.func129,Tryz.ntmps129
 go_wp2;have HWd:=xN (show w.drew.cell? ⟨b,o,none⟩=some (.slice (some ⟨b1,off,none⟩) x.zD.length vc0)∧w.drew.cell? ⟨b1,off+m * 3+1,none⟩=some (.int .i64 y.zU) from⟨p0,e1⟩);have HBd:=xN (Below.refl w.heap.size w).drew;have HATd:=xN (T.at_below HAT.out (Below.refl w.heap.size w).drew);refine wH (fun w'=>w'.cell? ⟨b,o,none⟩=some (.slice (some ⟨b1,off,none⟩) x.zD.length vc0)∧w'.cell? ⟨b1,off+m * 3+1,none⟩=some (.int .i64 y.zU)) [] (by kernel_rfl) ?_ (fun hS0=>?_)
 ·exact HWd.out
 have hdz:w.drew.heap.size=w.heap.size:=rfl;clear p0 e1 lb;generalize w.drew=wd at *;refine zN 0 hS0 ?_;refine zN 2 hS0 ?_;refine zN 3 hS0 ?_;refine zN 6 hS0 ?_;refine zN 7 hS0 ?_;refine zN 8 hS0 ?_;refine zN 9 hS0 ?_;refine zN 10 hS0 ?_;refine zN 11 hS0 ?_;refine zN 12 hS0 ?_;refine zN 13 hS0 ?_;refine zN 14 hS0 ?_;refine pN 1 (fun K hK=>?_);go_simp;go_wp2_with (go_at_call 182;refine(HCE.out _ HATd.out).mono ?_;rintro e w3 ⟨v3,rfl,ho,hb⟩)
 obtain⟨g,cp,rfl,hcp,hgg,hgw⟩:=OwI.form ho (by rw[vX];omega);have ck:=OwI.yJz ho HGA.out;have HB3:=xN (yQ HBd.out zM hb);have HW3:=xN (show w3.cell? ⟨b,o,none⟩=some (.slice (some ⟨b1,off,none⟩) x.zD.length vc0)∧w3.cell? ⟨b1,off+m * 3+1,none⟩=some (.int .i64 y.zU) from⟨(hb.cell (World.block_lt_of_cell? _ _ HWd.out.1)).trans HWd.out.1,(hb.cell (World.block_lt_of_cell? _ _ HWd.out.2)).trans HWd.out.2⟩);clear ho hb;have hel:(wQ x).length=x.zD.length:=vX x;refine uN hK ?_ (fun hS1=>?_)
 ·exact HW3.out
 clear hK K hS0;refine pN 4 (fun K hK=>?_);go_simp;refine uN hK ?_ (fun hS2=>?_)
 ·exact HW3.out
 clear hK K hS1;refine pN 5 (fun K hK=>?_);go_simp;refine uN hK ?_ (fun hS3=>?_)
 ·exact HW3.out
 clear hK K hS2;refine pN 15 (fun K hK=>?_);go_simp;refine uN hK ?_ (fun hS4=>?_)
 ·exact HW3.out
 clear hK K hS3;refine pN 16 (fun K hK=>?_);go_simp;refine uN hK ?_ (fun hS5=>?_)
 ·exact HW3.out
 clear hK K hS4;refine qN ?_;clear hS5;go_wp2;go_ret
 exact⟨wL (by rw[HT.out]),HB3.out⟩
theorem c_latency (x:wG) (cs:List Value) (w:World) (hM:uP x) (hg:x.good) (h:T.rds w x.fs cs):Calls Tryz.prog 190 #[.agg cs.toArray] w fun e w'=>e= .returned (.int .i64 (uI x))∧Below w.heap.size w w':=by
 obtain⟨v0,rfl,h0⟩:=wG.yV h;clear h;obtain⟨va0,vc0,rfl,vl0,vm0,R0,HX0⟩:=oG h0;clear h0;have HB0:=xN (show Below w.heap.size w (w.alloc (.cells #[(.slice va0 x.zD.length vc0)] 30)) from zR.alloc zJ _);have HK0:=xN (Bk.born w 30 #[(.slice va0 x.zD.length vc0)]);obtain⟨ta,y,hgy,hga,a0,a1,l0,l1,ht,n1,n8⟩:=total_facts hM;have HT:=xN ht;have HGA:=xN hga;clear ht hga;have HCE:=xN (fun(W:World) (cs:List Value) (h:T.rds W x.fs cs)=>c_entries x cs W hM hg h);obtain⟨b1,off,cs1,rfl,hb1,hcs,hcell⟩:=HX0.out _ y hgy;obtain⟨v9,rfl,hv9⟩:=xP.yV (show T.rds _ _ _ by simpa only[xP.t,T.rd] using hcs);have e1:=hcell 1 _ rfl;obtain⟨m,hm⟩: ∃ m:Nat,x.zD.length - 1=m:=⟨_,rfl⟩;rw[hm] at e1 HGA;rw[show off+(m * 3+1)=off+m * 3+1 by omega] at e1;have hm1:(x.zD.length:Int) - 1=(m:Int):=by omega
 have hw0:IntKind.i64.wrap ((x.zD.length:Int) - 1)=(m:Int):=by rw[hm1];exact IntWalk.i64_in _ zM
 have hw:IntKind.i64.wrap (ta+y.zU)=ta+y.zU:=IntWalk.i64_in _ zM;have hml:(m:Int)<(x.zD.length:Int):=by omega
 have HM1:=xN hm1;clear hm hm1 hcell hcs hv9 hgy hM hg;generalize uI x=OO at *
 go_enter Tryz.func190,Tryz.ntmps190
 go_wp2;generalize (w.alloc (.cells #[(.slice (some ⟨b1,off,none⟩) x.zD.length vc0)] 30))=W at *;have HWd:=xN (show (∀ i,W.drew.cell? ⟨w.heap.size,i,none⟩= #[(.slice (some ⟨b1,off,none⟩) x.zD.length vc0)][i]?)∧W.drew.cell? ⟨b1,off+m * 3+1,none⟩=some (.int .i64 y.zU) from⟨HK0.out.cell,(HB0.out.cell hb1).trans e1⟩);have HBd:=xN HB0.out.drew;have HRd:=xN (show T.rds W.drew x.fs [(.slice (some ⟨b1,off,none⟩) x.zD.length vc0)] from wG.rd_mk (T.yM R0.out HBd.out));have hsd:=HBd.out.size;refine wH (fun w'=>(∀ i,w'.cell? ⟨w.heap.size,i,none⟩= #[(.slice (some ⟨b1,off,none⟩) x.zD.length vc0)][i]?)∧w'.cell? ⟨b1,off+m * 3+1,none⟩=some (.int .i64 y.zU)) [] (by kernel_rfl) ?_ (fun hS0=>?_)
 ·exact HWd.out
 clear e1;have HKd:=xN (Bk.drew HK0.out);generalize W.drew=wd at *;refine zN 0 hS0 ?_;refine zN 2 hS0 ?_;refine zN 5 hS0 ?_;refine zN 6 hS0 ?_;refine zN 7 hS0 ?_;refine zN 8 hS0 ?_;refine zN 9 hS0 ?_;refine zN 10 hS0 ?_;refine pN 1 (fun K hK=>?_);go_simp;go_wp2_with (go_at_call 191;refine(HCE.out _ _ HRd.out).mono ?_;rintro e w3 ⟨v3,rfl,ho,hb⟩)
 obtain⟨g,cp,rfl,hcp,hgg,hgw⟩:=OwI.form ho (by rw[vX];omega);have ck:=OwI.yJz ho HGA.out;have HB3:=xN (yQ HBd.out hsd hb);have HW3:=xN (show (∀ i,w3.cell? ⟨w.heap.size,i,none⟩= #[(.slice (some ⟨b1,off,none⟩) x.zD.length vc0)][i]?)∧w3.cell? ⟨b1,off+m * 3+1,none⟩=some (.int .i64 y.zU) from⟨(HKd.out.below hb HKd.out.lt).cell,(hb.cell (World.block_lt_of_cell? _ _ HWd.out.2)).trans HWd.out.2⟩);clear ho hb;have hel:(wQ x).length=x.zD.length:=vX x;refine uN hK ?_ (fun hS1=>?_)
 ·exact HW3.out
 clear hK K hS0;refine pN 3 (fun K hK=>?_);go_simp;refine uN hK ?_ (fun hS2=>?_)
 ·exact HW3.out
 clear hK K hS1;refine pN 4 (fun K hK=>?_);go_simp;refine uN hK ?_ (fun hS3=>?_)
 ·exact HW3.out
 clear hK K hS2;refine pN 11 (fun K hK=>?_);go_simp;refine uN hK ?_ (fun hS4=>?_)
 ·exact HW3.out
 clear hK K hS3;refine pN 12 (fun K hK=>?_);go_simp;refine uN hK ?_ (fun hS5=>?_)
 ·exact HW3.out
 clear hK K hS4;refine qN ?_;clear hS5;go_wp2;go_ret
 exact⟨wL (by rw[HT.out]),HB3.out⟩
end
end Go.Proofs.YtoibekfhepnedaaGreat
