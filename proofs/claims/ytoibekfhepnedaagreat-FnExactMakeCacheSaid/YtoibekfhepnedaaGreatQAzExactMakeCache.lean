/- Contract: the signal of a track, by the program. Contract: entry times of a mixer, by the reference. Contract: entry times of a mixer, by the program. Contracts: the latency of a mixer, both sides. -/
import Derived.Test.YtoibekfhepnedaaGreatQAtExactMakeCache
import Derived.Test.YtoibekfhepnedaaGreatQArExactMakeCache
import Derived.Test.YtoibekfhepnedaaGreatQAuExactMakeCache
import Derived.Test.YtoibekfhepnedaaGreatQAdExactMakeCache
import Derived.Test.YtoibekfhepnedaaGreatQAfExactMakeCache
import Derived.Test.YtoibekfhepnedaaGreatQAqExactMakeCache
set_option linter.unusedVariables false
set_option linter.unusedSimpArgs false
set_option maxHeartbeats 8000000
set_option maxRecDepth 100000
namespace Go.Proofs.YtoibekfhepnedaaGreat
section
open Go.RowKit
theorem src_smp {ss:List (List Int)} (h:zAz ss) {i:Nat} {l:List Int} (hl:ss[i]?=some l): ∀ x ∈ l,Smp x:=by
 have e:=h.each i l hl
 unfold sigB at e
 simp only[Bool.and_eq_true,smpB,decide_eq_true_eq] at e
 exact e.2
theorem c_renderTrack (x:xI) (cs:List Value) (sources:List (List Int)) (sv:Value) (n:Nat) (w:World) (hT:TrackOk x) (hS:zAz sources) (hc:Each x.zR fun _ c=>c.zU<(sources.length:Int)) (hn:n≤4000) (hr:T.rd w (T.sl 26 1 (sources.map (T.ints 2))) [sv]) (h:T.rds w x.fs cs):Calls Tryz.prog 194 #[sv,.agg cs.toArray,.int .i64 (n:Int)] w fun e w'=> ∃ v,e= .returned v∧OwI 2 w' w.heap.size v (uS sources x n)∧Below w.heap.size w w':=by
 obtain⟨v0,rfl,h0⟩:=xI.yO h
 clear h
 have R0:=hide h0;obtain⟨va0,vc0,rfl,vl0,vm0,vx0⟩:=T.yN h0
 have HX0:=hide vx0;clear vx0 h0
 have HB0:=hide (show Below w.heap.size w (w.alloc (.cells #[(.slice va0 x.zR.length vc0)] 96)) from(Below.refl _ _).alloc (Nat.le_refl _) _)
 have HK0:=hide (Bk.born w 96 #[(.slice va0 x.zR.length vc0)])
 have HTO:=hide hT;have HSO:=hide hS;have HCS:=hide hc;clear hT hS hc
 obtain⟨SA,sc,rfl,sl_,sm,sx⟩:=T.yN hr
 have HSX:=hide sx;clear sx hr
 have HALL:=hide (show wV sources x.zR n x.zR.length=uS sources x n from rfl)
 go_enter Tryz.func194,Tryz.ntmps194
 go_wp2_with fail
 refine(vV n _ (by omega)).mono ?_;rintro e w1 ⟨rfl,ho,hd⟩
 have HOz:=hide ho;clear ho
 have hb:Below (w.alloc (.cells #[(.slice va0 x.zR.length vc0)] 96)).heap.size (w.alloc (.cells #[(.slice va0 x.zR.length vc0)] 96)) w1:=by first|exact hd|exact hd.to_below _|exact hd ▸ Below.refl _ _
 have HK1:=hide (HK0.out.below hb HK0.out.lt);have HB1:=hide (yJ HB0.out HB0.out.size hb);clear hb hd;have ka:=HK1.out.cell;have la:=HK1.out.lt
 have hgz:w.heap.size<(w.alloc (.cells #[(.slice va0 x.zR.length vc0)] 96)).heap.size:=by simp
 generalize (w.alloc (.cells #[(.slice va0 x.zR.length vc0)] 96)).heap.size=g at *
 have HO1:=hide (show OwI 2 w1 g (.slice (some ⟨g,0,none⟩) n n) (wV sources x.zR n 0) from HOz.out)
 have hg1:g<w1.heap.size:=(HOz.out.lt g rfl).2
 clear HOz
 go_wp2
 go_loopw [16] (fun i wr=> ∃ k:Nat,k≤x.zR.length∧i= .int .i64 (k:Int)∧OwI 2 wr g (.slice (some ⟨g,0,none⟩) n n) (wV sources x.zR n k)∧Below w.heap.size w wr∧Bk wr w.heap.size 96 #[(.slice va0 x.zR.length vc0)]∧g<wr.heap.size) (fun i _=>x.zR.length - (intOf i).toNat)
 case atStart=>exact⟨0,Nat.zero_le _,rfl,HO1.out,HB1.out,HK1.out,hg1⟩
 case round=>
  obtain⟨k,hk,rfl,ho,hbw,hbk,hgw⟩:=hrel
  have HO:=hide ho;have HB:=hide hbw;have HK:=hide hbk;clear ho hbw hbk ka la
  have ka:=HK.out.cell;have la:=HK.out.lt
  by_cases hlt:k<x.zR.length
  rotate_left
  ·
   obtain rfl:k=x.zR.length:=by omega
   go_wp2
   go_ret
   exact⟨_,rfl,by rw[←HALL.out];exact wH HO.out (by omega),HB.out⟩
  have hgk:=gE hlt
  obtain⟨b1,off,cs1,hA,hb1,hcs,hcell⟩:=HX0.out k x.zR[k] hgk
  subst hA
  generalize x.zR[k]=y at *
  have HG:=hide hgk;clear hgk
  obtain rfl:=xL.yO (show T.rds _ _ _ by simpa only[xL.t,T.rd] using hcs)
  have d0:=(HB.out.cell hb1).trans (hcell 0 (.int .i64 y.zU) rfl)
  have d1:=(HB.out.cell hb1).trans (hcell 1 (.int .i64 y.zH) rfl)
  have d2:=(HB.out.cell hb1).trans (hcell 2 (.int .i64 y.zF) rfl)
  have d3:=(HB.out.cell hb1).trans (hcell 3 (.int .i64 y.zX) rfl)
  have d4:=(HB.out.cell hb1).trans (hcell 4 (.int .i64 y.zS) rfl)
  rw[show off+(k * 5+0)=off+k * 5 by omega] at d0
  rw[show off+(k * 5+1)=off+k * 5+1 by omega] at d1
  rw[show off+(k * 5+2)=off+k * 5+2 by omega] at d2
  rw[show off+(k * 5+3)=off+k * 5+3 by omega] at d3
  rw[show off+(k * 5+4)=off+k * 5+4 by omega] at d4
  clear hcs hcell
  have hq1:b1<wr.heap.size:=lL hb1 HB.out.size
  have hok:=(HTO.out.clips k y HG.out).1;have hso:=HCS.out k y HG.out
  have i1:=xC.1 hok.source;have i2:=xC.1 hok.length;have i3:=xC.1 hok.from_;have i4:=xC.1 hok.at_;have HGN:=hide hok.gain;clear hok
  have hsj:y.zU.toNat<sources.length:=by omega
  have hgs:=gE hsj
  obtain⟨b5,o5,c5,rfl,hb5,hcs5,hcell5⟩:=HSX.out _ _ hgs
  have HSM:=hide (src_smp HSO.out hgs);have HSD:=hide (show sources.getD y.zU.toNat []=sources[y.zU.toNat] by rw[List.getD_eq_getElem?_getD,hgs];rfl)
  generalize sources[y.zU.toNat]=src at *
  obtain⟨v5,rfl⟩:=T.rd_one hcs5
  have e0:=hcell5 0 v5 rfl
  rw[Nat.mul_one,Nat.add_zero] at e0
  have RS:=hide (T.yT.1 hcs5);clear hcs5 hcell5 hgs
  obtain⟨A5,c5,rfl,l5,m5,x5⟩:=RS.out.open_;clear x5
  have HE0:=hide e0;clear e0
  have HUk:=hide (show wV sources x.zR n (k+1)=uH y src (wV sources x.zR n k) (clipN y n) by show (match x.zR[k]? with|some c=>_|none=>_)=_;rw[HG.out,←HSD.out])
  have HRX:=hide (show Below wr.heap.size wr (wr.alloc (.cells #[.int .i64 y.zU,.int .i64 y.zH,.int .i64 y.zF,.int .i64 y.zX,.int .i64 y.zS] 39)) from(Below.refl _ _).alloc (Nat.le_refl _) _)
  have HOX:=hide (show OwI 2 (wr.alloc (.cells #[.int .i64 y.zU,.int .i64 y.zH,.int .i64 y.zF,.int .i64 y.zX,.int .i64 y.zS] 39)) g (.slice (some ⟨g,0,none⟩) n n) (uH y src (wV sources x.zR n k) 0) from wO HO.out HRX.out);have HBX:=hide (yJ HB.out HB.out.size HRX.out);have HKX:=hide (HK.out.alloc (.cells #[.int .i64 y.zU,.int .i64 y.zH,.int .i64 y.zF,.int .i64 y.zX,.int .i64 y.zS] 39));have HNX:=hide (Bk.born wr 39 #[.int .i64 y.zU,.int .i64 y.zH,.int .i64 y.zF,.int .i64 y.zX,.int .i64 y.zS])
  have hgB:g<wr.heap.size:=hgw;have hBX:wr.heap.size<(wr.alloc (.cells #[.int .i64 y.zU,.int .i64 y.zH,.int .i64 y.zF,.int .i64 y.zX,.int .i64 y.zS] 39)).heap.size:=HNX.out.lt
  clear ka la;have ka:=HKX.out.cell;have la:=HKX.out.lt;have kn:=HNX.out.cell;have ln:=HNX.out.lt
  have hcn:clipN y n=min y.zF.toNat (n - y.zX.toNat):=rfl
  go_wp2
  generalize hWX:(wr.alloc (.cells #[.int .i64 y.zU,.int .i64 y.zH,.int .i64 y.zF,.int .i64 y.zX,.int .i64 y.zS] 39))=WX at *;clear hWX
  generalize hB1:wr.heap.size=B1 at *
  have HB1q:=hide hB1;clear hB1
  go_loopw [10] (fun i wr=> ∃ q:Nat,q≤clipN y n∧i= .int .i64 (q:Int)∧OwI 2 wr g (.slice (some ⟨g,0,none⟩) n n) (uH y src (wV sources x.zR n k) q)∧Below w.heap.size w wr∧Bk wr w.heap.size 96 #[(.slice (some ⟨b1,off,none⟩) x.zR.length vc0)]∧Bk wr B1 39 #[.int .i64 y.zU,.int .i64 y.zH,.int .i64 y.zF,.int .i64 y.zX,.int .i64 y.zS]) (fun i _=>clipN y n - (intOf i).toNat)
  case atStart=>exact⟨0,Nat.zero_le _,rfl,HOX.out,HBX.out,HKX.out,HNX.out⟩
  case round=>
   obtain⟨q,hq,rfl,ho,hbw,hbk,hbn⟩:=hrel
   have HOi:=hide ho;have HBi:=hide hbw;have HKi:=hide hbk;have HNi:=hide hbn;clear ho hbw hbk hbn ka la kn ln
   have ka:=HKi.out.cell;have la:=HKi.out.lt;have kn:=HNi.out.cell;have ln:=HNi.out.lt
   have hwA:IntKind.i64.wrap (y.zX+(q:Int))=y.zX+(q:Int):=IntWalk.i64_in _ (by omega)
   by_cases hlq:q<clipN y n
   rotate_left
   ·
    obtain rfl:q=clipN y n:=by omega
    have hg9:g<wr.heap.size:=(HOi.out.lt g rfl).2
    have HREL:=hide (show OwI 2 wr g (.slice (some ⟨g,0,none⟩) n n) (wV sources x.zR n (k+1)) by rw[HUk.out];exact HOi.out)
    generalize hcq:clipN y n=cq at *
    by_cases hlen:(cq:Int)<y.zF
    ·
     have hno: ¬ (y.zX+(cq:Int)<(n:Int)):=by omega
     go_wp2
     go_roundw
     case rel=>exact⟨k+1,by omega,by go_num,HREL.out,HBi.out,HKi.out,hg9⟩
     case measure=>simp[intOf];omega
    ·
     go_wp2
     go_roundw
     case rel=>exact⟨k+1,by omega,by go_num,HREL.out,HBi.out,HKi.out,hg9⟩
     case measure=>simp[intOf];omega
   have hl1:(q:Int)<y.zF:=by omega
   have hl2:y.zX+(q:Int)<(n:Int):=by omega
   obtain⟨j,hj⟩: ∃ j:Nat,y.zX+(q:Int)=(j:Int):=⟨(y.zX+(q:Int)).toNat,by omega⟩
   have hjA:y.zX.toNat+q=j:=by omega
   have hjn:(j:Int)<(n:Int):=by omega
   have hwj:IntKind.i64.wrap (j:Int)=(j:Int):=IntWalk.i64_in _ (by omega)
   have HCU:=hide (show uH y src (wV sources x.zR n k) (q+1)=(uH y src (wV sources x.zR n k) q).set j (wrp ((uH y src (wV sources x.zR n k) q).getD j 0+y.zS * wR src (y.zH+(q:Int)))) by rw[←hjA];rfl)
   have hRl:(uH y src (wV sources x.zR n k) q).length=n:=by rw[length_clipUp,uT]
   have HRS:=hide (smp_clipUp (c:=y) (src:=src) (smp_trackUp (ss:=sources) (l:=x.zR) (n:=n) k) q)
   generalize hR:uH y src (wV sources x.zR n k) q=R at *
   have hjl:j<R.length:=by omega
   have HgA:=hide (gE hjl)
   have ht0:=HRS.out R[j] (List.getElem_mem hjl)
   have HDA:=hide (show R.getD j 0=R[j] by rw[List.getD_eq_getElem?_getD,HgA.out];rfl)
   generalize R[j]=t0 at *
   have hwF:IntKind.i64.wrap (y.zH+(q:Int))=y.zH+(q:Int):=IntWalk.i64_in _ (by omega)
   have hs0:=smpAt_smp HSM.out (y.zH+(q:Int))
   obtain⟨s0,hse⟩: ∃ s0,wR src (y.zH+(q:Int))=s0:=⟨_,rfl⟩
   have HAT:=hide (fun(W:World) (hr:RdI W (.slice A5 src.length c5) src)=>(by have:=c_at _ src (y.zH+(q:Int)) W (by omega) hr;rw[hse] at this;exact this:Calls Tryz.prog 198 #[.slice A5 src.length c5,.int .i64 (y.zH+(q:Int))] W fun e w'=>e= .returned (.int .i64 s0)∧W=w'))
   rw[hse] at hs0 HCU;clear hse
   have hm:=smp_mul HGN.out hs0
   have hw1:IntKind.i64.wrap (y.zS * s0)=y.zS * s0:=IntWalk.i64_in _ (by omega)
   have hw2:IntKind.i64.wrap (t0+y.zS * s0)=t0+y.zS * s0:=IntWalk.i64_in _ (by unfold Smp at ht0;omega)
   have hsl2:y.zU<(sources.length:Int):=hso
   go_wp2
   have HCA:=hide (HOi.out.cellN HgA.out);have HE5:=hide ((HBi.out.cell hb5).trans HE0.out)
   have HWd:=hide (show (∀ i,wr.drew.cell? ⟨B1,i,none⟩= #[.int .i64 y.zU,.int .i64 y.zH,.int .i64 y.zF,.int .i64 y.zX,.int .i64 y.zS][i]?)∧wr.drew.cell? ⟨g,j,none⟩=some (.int .i64 t0)∧wr.drew.cell? ⟨b5,o5+y.zU.toNat,none⟩=some (.slice A5 src.length c5) from⟨HNi.out.cell,HCA.out,HE5.out⟩)
   have HOd:=hide (show OwI 2 wr.drew g (.slice (some ⟨g,0,none⟩) n n) R from wO HOi.out (Below.refl wr.heap.size wr).drew);have HBd:=hide HBi.out.drew;have HKd:=hide (Bk.drew HKi.out);have HNd:=hide (Bk.drew HNi.out);have HSd:=hide (show RdI wr.drew (.slice A5 src.length c5) src from RdI.below (RdI.below RS.out HBi.out) (Below.refl wr.heap.size wr).drew)
   clear ka la kn ln
   refine wK (fun w'=>(∀ i,w'.cell? ⟨B1,i,none⟩= #[.int .i64 y.zU,.int .i64 y.zH,.int .i64 y.zF,.int .i64 y.zX,.int .i64 y.zS][i]?)∧w'.cell? ⟨g,j,none⟩=some (.int .i64 t0)∧w'.cell? ⟨b5,o5+y.zU.toNat,none⟩=some (.slice A5 src.length c5)) 28 (by kernel_rfl) ?_ (fun hS0=>?_)
   ·exact HWd.out
   generalize hwd:wr.drew=wd at *;clear hwd
   refine tE 0 hS0 ?_
   refine tE 1 hS0 ?_
   refine tE 2 hS0 ?_
   refine tE 3 hS0 ?_
   refine tE 4 hS0 ?_
   refine tE 5 hS0 ?_
   refine tE 6 hS0 ?_
   refine tE 7 hS0 ?_
   refine tE 8 hS0 ?_
   refine tE 9 hS0 ?_
   refine tE 10 hS0 ?_
   refine tE 11 hS0 ?_
   refine tE 12 hS0 ?_
   refine tE 13 hS0 ?_
   refine tE 14 hS0 ?_
   refine tE 15 hS0 ?_
   refine tE 16 hS0 ?_
   refine tE 17 hS0 ?_
   refine tE 18 hS0 ?_
   refine tE 19 hS0 ?_
   refine tE 20 hS0 ?_
   refine tE 21 hS0 ?_
   refine tE 22 hS0 ?_
   refine oE 23 (fun K hK=>?_)
   go_simp
   go_wp2_with (go_at_call 198;refine(HAT.out _ HSd.out).mono ?_;rintro e w' ⟨rfl,rfl⟩)
   refine uE hK ?_ (fun hS1=>?_)
   ·exact HWd.out
   clear hK K hS0
   refine tE 24 hS1 ?_
   refine tE 25 hS1 ?_
   refine oE 26 (fun K hK=>?_)
   go_simp
   go_wp2_with (go_at_call 242;refine(c_Wrap _ _).mono ?_;rintro e w' ⟨rfl,rfl⟩)
   refine uE hK ?_ (fun hS2=>?_)
   ·exact HWd.out
   clear hK K hS1
   refine tE 27 hS2 ?_
   refine wJ (o:=_) (by kernel_rfl) rfl (by kernel_rfl) ?_
   have ck:=HWd.out.2.1;have fr:=HOd.out.freeN j
   go_wp2
   have HO2:=hide (HOd.out.setN j (wrp (t0+y.zS * s0)));have HG2:=hide (HOd.out.grownN j (.int .i64 (wrp (t0+y.zS * s0))))
   have HK2:=hide (HKd.out.far (p:=⟨g,j,none⟩) (show w.heap.size≠g by omega) (.int .i64 (wrp (t0+y.zS * s0))));have HN2:=hide (HNd.out.far (p:=⟨g,j,none⟩) (show B1≠g by omega) (.int .i64 (wrp (t0+y.zS * s0))))
   go_roundw
   case rel=>exact⟨q+1,by omega,by go_num,by rw[HCU.out,HDA.out];exact HO2.out,HBd.out.grown HG2.out HBd.out.size (fun j hj=>by injection hj with hj;omega),HK2.out,HN2.out⟩
   case measure=>simp[intOf];omega
end
section
open Go.RowKit
theorem c_l26Entries (x:xU) (b o:Nat) (w:World) (hM:vU x) (hg:x.good) (h:T.at w x.fs b o):Calls Tryz.prog 182 #[.pointer (some ⟨b,o,none⟩)] w fun e w'=> ∃ v,e= .returned v∧OwI 2 w' w.heap.size v (xV x)∧Below w.heap.size w w':=by
 have HAT:=hide h
 obtain⟨hlt0,cs,hr,hc⟩:=h
 obtain⟨v0,rfl,h0⟩:=xU.yO hr
 clear hr
 have R0:=hide h0;obtain⟨va0,vc0,rfl,vl0,vm0,vx0⟩:=T.yN h0
 have HX0:=hide vx0;clear vx0 h0
 have HL:=hide hlt0;have HCC:=hide hc;have HB0:=hide (Below.refl w.heap.size w);clear hlt0 hc
 have HM:=hide hM;have HGD:=hide hg;have hn8:x.zC.length≤8:=hM.few;clear hM hg
 have HUP:=hide (fun k=>entUp_upper (l:=x.zC) (fun y hy=>by obtain⟨i,hi⟩:=List.mem_iff_getElem?.1 hy;exact uL.1 (HM.out.each i y hi).1.latency) (fun i y hy s hs e=>by obtain⟨k,hk⟩:=List.mem_iff_getElem?.1 hs;have:=(vX HM.out hy k s hk).1;omega) k)
 have p0:w.cell? ⟨b,o,none⟩=some (.slice va0 x.zC.length vc0):=(HB0.out.cell HL.out).trans (HCC.out 0 _ rfl)
 have lb:b<w.heap.size:=lL HL.out HB0.out.size
 obtain⟨i0,hi,hz0,hz1,hz2⟩:=info_parts info_i64
 go_enter Tryz.func182,Tryz.ntmps182
 go_wp2_with (at_make;refine wpList_make_full _ rfl _ _ _ rfl w.heap.size 2 i0 _ 1 Tryz.underlying26 hi hz0 hz1 .i64 .i64 _ _ x.zC.length rfl rfl rfl rfl (by rw[hz2];omega) (by unfold maxLen;omega) (Nat.le_refl _) ?_;intro w1 hown1 hg1)
 have HO1:=hide (show OwI 2 w1 w.heap.size (.slice (some ⟨w.heap.size,0,none⟩) x.zC.length x.zC.length) (vH x.zC 0) from OwI.made _ w1 (n:=x.zC.length) hg1.size (by unfold maxLen;omega) 0 hown1)
 have HB1:=hide (show Below w.heap.size w w1 from(Below.refl _ _).grown hg1 (Nat.le_refl _) (by simp))
 clear hown1 hg1 p0 lb hi hz0 hz1 hz2
 have p0:w1.cell? ⟨b,o,none⟩=some (.slice va0 x.zC.length vc0):=(HB1.out.cell HL.out).trans (HCC.out 0 _ rfl)
 have lb:b<w1.heap.size:=lL HL.out HB1.out.size
 go_wp2
 go_loopw [4] (fun i wr=> ∃ k:Nat,k≤x.zC.length∧i= .int .i64 (k:Int)∧OwI 2 wr w.heap.size (.slice (some ⟨w.heap.size,0,none⟩) x.zC.length x.zC.length) (vH x.zC k)∧Below w.heap.size w wr) (fun i _=>x.zC.length - (intOf i).toNat)
 case atStart=>exact⟨0,Nat.zero_le _,rfl,HO1.out,HB1.out⟩
 case round=>
  obtain⟨k,hk,rfl,ho,hbw⟩:=hrel
  have HO:=hide ho;have HB:=hide hbw;clear ho hbw p0 lb
  have p0:wr.cell? ⟨b,o,none⟩=some (.slice va0 x.zC.length vc0):=(HB.out.cell HL.out).trans (HCC.out 0 _ rfl)
  have lb:b<wr.heap.size:=lL HL.out HB.out.size
  by_cases hlt:k<x.zC.length
  rotate_left
  ·
   obtain rfl:k=x.zC.length:=by omega
   go_wp2
   go_ret
   exact⟨_,rfl,HO.out,HB.out⟩
  have hgk:=gE hlt
  obtain⟨b1,off,csy,hA,hb1,hcs,hcell⟩:=HX0.out k x.zC[k] hgk
  subst hA
  generalize x.zC[k]=y at *
  have HG:=hide hgk;clear hgk
  have HAy:=hide (T.at_elem (o:=off+k * 3) hb1 (show T.rds w y.fs csy by simpa only[xH.t,T.rd] using hcs) hcell (by omega));clear hcs hcell
  clear p0 lb
  have p0:wr.cell? ⟨b,o,none⟩=some (.slice (some ⟨b1,off,none⟩) x.zC.length vc0):=(HB.out.cell HL.out).trans (HCC.out 0 _ rfl)
  have lb:b<wr.heap.size:=lL HL.out HB.out.size
  obtain⟨lty,csy',hry,hcy⟩:=HAy.out
  obtain⟨u2,rfl,hu2⟩:=xH.yO hry
  have Ru2:=hide hu2;obtain⟨ua2,uc2,rfl,ul2,um2,ux2⟩:=T.yN hu2;have HXu2:=hide ux2;clear ux2 hu2
  have HCy:=hide hcy;clear hry hcy
  have cy0:wr.cell? ⟨b1,off+k * 3,none⟩=some (.string y.zV):=(HB.out.cell lty).trans (HCy.out 0 _ rfl)
  have cy1:wr.cell? ⟨b1,off+k * 3+1,none⟩=some (.int .i64 y.zI):=(HB.out.cell lty).trans (HCy.out 1 _ rfl)
  have cy2:wr.cell? ⟨b1,off+k * 3+2,none⟩=some (.slice ua2 y.zM.length uc2):=(HB.out.cell lty).trans (HCy.out 2 _ rfl)
  have HNM:=hide (HM.out.each k y HG.out).1
  have hlat:=uL.1 HNM.out.latency
  have lb1:b1<wr.heap.size:=lL hb1 HB.out.size
  have HUk:=hide (show vH x.zC (k+1)=entS k y.zI (vH x.zC k) y.zM y.zM.length by show (match x.zC[k]? with|some x=>_|none=>_)=_;rw[HG.out])
  go_wp2
  go_loopw [6] (fun i wr=> ∃ q:Nat,q≤y.zM.length∧i= .int .i64 (q:Int)∧OwI 2 wr w.heap.size (.slice (some ⟨w.heap.size,0,none⟩) x.zC.length x.zC.length) (entS k y.zI (vH x.zC k) y.zM q)∧Below w.heap.size w wr) (fun i _=>y.zM.length - (intOf i).toNat)
  case atStart=>exact⟨0,Nat.zero_le _,rfl,HO.out,HB.out⟩
  case round=>
   obtain⟨q,hq,rfl,ho,hbw⟩:=hrel
   have HOi:=hide ho;have HBi:=hide hbw;clear ho hbw p0 lb cy0 cy1 cy2
   have p0:wr.cell? ⟨b,o,none⟩=some (.slice (some ⟨b1,off,none⟩) x.zC.length vc0):=(HBi.out.cell HL.out).trans (HCC.out 0 _ rfl)
   have lb:b<wr.heap.size:=lL HL.out HBi.out.size
   have cy0:wr.cell? ⟨b1,off+k * 3,none⟩=some (.string y.zV):=(HBi.out.cell lty).trans (HCy.out 0 _ rfl)
   have cy1:wr.cell? ⟨b1,off+k * 3+1,none⟩=some (.int .i64 y.zI):=(HBi.out.cell lty).trans (HCy.out 1 _ rfl)
   have cy2:wr.cell? ⟨b1,off+k * 3+2,none⟩=some (.slice ua2 y.zM.length uc2):=(HBi.out.cell lty).trans (HCy.out 2 _ rfl)
   have lb1':b1<wr.heap.size:=lL hb1 HBi.out.size
   by_cases hlq:q<y.zM.length
   rotate_left
   ·
    obtain rfl:q=y.zM.length:=by omega
    go_wp2
    go_roundw
    case rel=>exact⟨k+1,by omega,by go_num,by rw[HUk.out];exact HOi.out,HBi.out⟩
    case measure=>simp[intOf];omega
   have hgq:=gE hlq
   obtain⟨b2,off2,cs2,hA2,hb2,hcs2,hcell2⟩:=HXu2.out q y.zM[q] hgq
   subst hA2
   generalize y.zM[q]=z at *
   have HGZ:=hide hgq;clear hgq
   obtain rfl:=xM.yO (show T.rds _ _ _ by simpa only[xM.t,T.rd] using hcs2)
   have s0:=(HBi.out.cell hb2).trans (hcell2 0 (.int .i64 z.zW) rfl)
   have s1:=(HBi.out.cell hb2).trans (hcell2 1 (.int .i64 z.zS) rfl)
   rw[show off2+(q * 2+0)=off2+q * 2 by omega] at s0
   rw[show off2+(q * 2+1)=off2+q * 2+1 by omega] at s1
   clear hcs2 hcell2
   have lb2:b2<wr.heap.size:=lL hb2 HBi.out.size
   obtain⟨t0,t1,_⟩:=vX HM.out HG.out q z HGZ.out
   have n0:0≤z.zW:=by omega
   have HES:=hide (show entS k y.zI (vH x.zC k) y.zM (q+1)=(entS k y.zI (vH x.zC k) y.zM q).set z.zW.toNat (max ((entS k y.zI (vH x.zC k) y.zM q).getD z.zW.toNat 0) ((entS k y.zI (vH x.zC k) y.zM q).getD k 0+y.zI)) by show (match y.zM[q]? with|some s=>_|none=>_)=_;rw[HGZ.out])
   have hUq:=((entS_upper (i:=k) (lat:=y.zI) (out:=vH x.zC k) (l:=y.zM) (B:=32 * ((k+1:Nat):Int)) (fun j=>(HUP.out k j).1) (by have:=(HUP.out k k).2;omega) hlat.1 ((HUP.out k).mono (by omega)) (fun s hs e=>by obtain⟨j,hj⟩:=List.mem_iff_getElem?.1 hs;have:=(vX HM.out HG.out j s hj).1;omega) q).1) k
   have HUq:=hide hUq;clear hUq
   have hlen:(entS k y.zI (vH x.zC k) y.zM q).length=x.zC.length:=by rw[length_entS,zEz]
   generalize hR:entS k y.zI (vH x.zC k) y.zM q=R at *
   have hzt:z.zW.toNat<R.length:=by omega
   have hkt:k<R.length:=by omega
   have HgA:=hide (gE hzt);have HgB:=hide (gE hkt)
   have ca:=HOi.out.cellN HgA.out;have cb:=HOi.out.cellN HgB.out;have fr:=HOi.out.freeN z.zW.toNat
   have HDA:=hide (show R.getD z.zW.toNat 0=R[z.zW.toNat] by rw[List.getD_eq_getElem?_getD,HgA.out];rfl);have HDB:=hide (show R.getD k 0=R[k] by rw[List.getD_eq_getElem?_getD,HgB.out];rfl)
   generalize R[z.zW.toNat]=ta at *;generalize R[k]=tb at *
   have hbd:0≤tb∧tb≤1000:=by have h:=HUq.out;rw[HDB.out] at h;omega
   have hw:IntKind.i64.wrap (tb+y.zI)=tb+y.zI:=IntWalk.i64_in _ (by omega)
   have la:=HOi.out.lt w.heap.size rfl;have la2:=la.2
   go_wp2
   have HWd:=hide (show (wr.drew.cell? ⟨w.heap.size,z.zW.toNat,none⟩=some (.int .i64 ta))∧(wr.drew.cell? ⟨w.heap.size,k,none⟩=some (.int .i64 tb))∧(wr.drew.cell? ⟨b1,off+k * 3+1,none⟩=some (.int .i64 y.zI)) from⟨ca,cb,cy1⟩)
   have HOd:=hide (show OwI 2 wr.drew w.heap.size (.slice (some ⟨w.heap.size,0,none⟩) x.zC.length x.zC.length) R from wO HOi.out (Below.refl wr.heap.size wr).drew);have HBd:=hide HBi.out.drew;have frd:wr.drew.frozen? ⟨w.heap.size,z.zW.toNat,none⟩=false:=fr
   clear ca cb cy0 cy1 cy2 p0 lb fr s0 s1 la la2
   refine wK (fun w'=>(w'.cell? ⟨w.heap.size,z.zW.toNat,none⟩=some (.int .i64 ta))∧(w'.cell? ⟨w.heap.size,k,none⟩=some (.int .i64 tb))∧(w'.cell? ⟨b1,off+k * 3+1,none⟩=some (.int .i64 y.zI))) 17 (by kernel_rfl) ?_ (fun hS0=>?_)
   ·exact HWd.out
   generalize hwd:wr.drew=wd at *;clear hwd
   refine tE 0 hS0 ?_
   refine tE 1 hS0 ?_
   refine tE 2 hS0 ?_
   refine tE 3 hS0 ?_
   refine tE 4 hS0 ?_
   refine tE 5 hS0 ?_
   refine tE 6 hS0 ?_
   refine tE 7 hS0 ?_
   refine tE 8 hS0 ?_
   refine tE 9 hS0 ?_
   refine tE 10 hS0 ?_
   refine tE 11 hS0 ?_
   refine tE 12 hS0 ?_
   refine tE 13 hS0 ?_
   refine tE 14 hS0 ?_
   refine oE 15 (fun K hK=>?_)
   go_simp
   go_wp2_with (go_at_call 213;refine(c_qMax _ _ _).mono ?_;rintro e w' ⟨rfl,rfl⟩)
   refine uE hK ?_ (fun hS1=>?_)
   ·exact HWd.out
   clear hK K hS0
   refine tE 16 hS1 ?_
   refine wJ (o:=_) (by kernel_rfl) rfl (by kernel_rfl) ?_
   have ck:=HWd.out.1
   go_wp2
   have HO2:=hide (HOd.out.setN z.zW.toNat (max ta (tb+y.zI)));have HG2:=hide (HOd.out.grownN z.zW.toNat (.int .i64 (max ta (tb+y.zI))))
   go_roundw
   case rel=>exact⟨q+1,by omega,by go_num,by rw[HES.out,HDA.out,HDB.out];exact HO2.out,HBd.out.grown HG2.out HBd.out.size (fun j hj=>by injection hj with hj;omega)⟩
   case measure=>simp[intOf];omega
end
section
open Go.RowKit
theorem rd_elems2 {w:World} {E:TypeId} {sz n c:Nat} {α:Type} {tr:α→T} {xs:List α} {A:Option Addr} (h:T.rd w (.sl E sz (xs.map tr)) [.slice A n c]):
  ∀ k x,xs[k]?=some x→ ∃ b off cs,A=some ⟨b,off,none⟩∧b<w.heap.size∧T.rd w (tr x) cs∧ ∀ j u,cs[j]?=some u→w.cell? ⟨b,off+(k * sz+j),none⟩=some u:=by
 obtain⟨A',c',e,_,_,h2⟩:=T.yN h
 injection e with e1 e2 e3
 subst e1
 exact h2
theorem c_entries (x:xU) (cs:List Value) (w:World) (hM:vU x) (hg:x.good) (h:T.rds w x.fs cs):Calls Tryz.prog 191 #[.agg cs.toArray] w fun e w'=> ∃ v,e= .returned v∧OwI 2 w' w.heap.size v (xV x)∧Below w.heap.size w w':=by
 obtain⟨v0,rfl,h0⟩:=xU.yO h
 clear h
 have R0:=hide h0;obtain⟨va0,vc0,rfl,vl0,vm0,vx0⟩:=T.yN h0
 have HX0:=hide vx0;clear vx0 h0
 have HB0:=hide (show Below w.heap.size w (w.alloc (.cells #[(.slice va0 x.zC.length vc0)] 30)) from(Below.refl _ _).alloc (Nat.le_refl _) _)
 have HK0:=hide (Bk.born w 30 #[(.slice va0 x.zC.length vc0)])
 have HM:=hide hM;have HGD:=hide hg;have hn8:x.zC.length≤8:=hM.few;clear hM hg
 have HUP:=hide (fun k=>entUp_upper (l:=x.zC) (fun y hy=>by obtain⟨i,hi⟩:=List.mem_iff_getElem?.1 hy;exact uL.1 (HM.out.each i y hi).1.latency) (fun i y hy s hs e=>by obtain⟨k,hk⟩:=List.mem_iff_getElem?.1 hs;have:=(vX HM.out hy k s hk).1;omega) k)
 go_enter Tryz.func191,Tryz.ntmps191
 go_wp2_with (go_at_call 102;refine(uB _ _ _ _ (by omega)).mono ?_;rintro e w' ⟨rfl,rfl⟩)
 refine(vV x.zC.length _ (by omega)).mono ?_;rintro e w1 ⟨rfl,ho,hd⟩
 have HOz:=hide ho;clear ho
 have hb:Below (w.alloc (.cells #[(.slice va0 x.zC.length vc0)] 30)).heap.size (w.alloc (.cells #[(.slice va0 x.zC.length vc0)] 30)) w1:=by first|exact hd|exact hd.to_below _|exact hd ▸ Below.refl _ _
 have HK1:=hide (HK0.out.below hb HK0.out.lt);have HB1:=hide (yJ HB0.out HB0.out.size hb);clear hb hd;have ka:=HK1.out.cell;have la:=HK1.out.lt
 have hgz:w.heap.size<(w.alloc (.cells #[(.slice va0 x.zC.length vc0)] 30)).heap.size:=by simp
 generalize (w.alloc (.cells #[(.slice va0 x.zC.length vc0)] 30)).heap.size=g at *
 have HO1:=hide (show OwI 2 w1 g (.slice (some ⟨g,0,none⟩) x.zC.length x.zC.length) (vH x.zC 0) from HOz.out)
 have hg1:g<w1.heap.size:=(HOz.out.lt g rfl).2
 clear HOz
 go_wp2
 go_loopw [15] (fun i wr=> ∃ k:Nat,k≤x.zC.length∧i= .int .i64 (k:Int)∧OwI 2 wr g (.slice (some ⟨g,0,none⟩) x.zC.length x.zC.length) (vH x.zC k)∧Below w.heap.size w wr∧Bk wr w.heap.size 30 #[(.slice va0 x.zC.length vc0)]∧g<wr.heap.size) (fun i _=>x.zC.length - (intOf i).toNat)
 case atStart=>exact⟨0,Nat.zero_le _,rfl,HO1.out,HB1.out,HK1.out,hg1⟩
 case round=>
  obtain⟨k,hk,rfl,ho,hbw,hbk,hgw⟩:=hrel
  have HO:=hide ho;have HB:=hide hbw;have HK:=hide hbk;clear ho hbw hbk ka la
  have ka:=HK.out.cell;have la:=HK.out.lt
  by_cases hlt:k<x.zC.length
  rotate_left
  ·
   obtain rfl:k=x.zC.length:=by omega
   go_wp2
   go_ret
   exact⟨_,rfl,wH HO.out (by omega),HB.out⟩
  have hgk:=gE hlt
  obtain⟨b1,off,cs1,hA,hb1,hcs,hcell⟩:=HX0.out k x.zC[k] hgk
  subst hA
  generalize x.zC[k]=y at *
  have HG:=hide hgk;clear hgk
  obtain⟨u2,rfl,hRY2⟩:=xH.yO (show T.rds _ _ _ by simpa only[xH.t,T.rd] using hcs)
  have d0:=(HB.out.cell hb1).trans (hcell 0 (.string y.zV) rfl)
  have d1:=(HB.out.cell hb1).trans (hcell 1 (.int .i64 y.zI) rfl)
  have d2:=(HB.out.cell hb1).trans (hcell 2 (u2) rfl)
  rw[show off+(k * 3+0)=off+k * 3 by omega] at d0
  rw[show off+(k * 3+1)=off+k * 3+1 by omega] at d1
  rw[show off+(k * 3+2)=off+k * 3+2 by omega] at d2
  have RY2:=hide (T.yF hRY2 HB.out);clear hRY2
  clear hcs hcell
  obtain⟨ua2,uc2,rfl,ul2,um2,ux2⟩:=T.yN RY2.out;clear ux2
  have hq1:b1<wr.heap.size:=lL hb1 HB.out.size
  obtain⟨b9,o9,cs9,hA9,hb9,hcs9,hcell9⟩:=HX0.out k y HG.out
  obtain⟨rfl,rfl⟩:b1=b9∧off=o9:=by injection hA9 with e;injection e with e1 e2;exact⟨e1,e2⟩
  obtain⟨v9,rfl,hv9⟩:=xH.yO (show T.rds _ _ _ by simpa only[xH.t,T.rd] using hcs9)
  have e9:=(HB.out.cell hb9).trans (hcell9 2 v9 rfl)
  rw[show off+(k * 3+2)=off+k * 3+2 by omega] at e9
  obtain rfl:v9= .slice ua2 y.zM.length uc2:=Option.some.inj (e9.symm.trans d2)
  have UX2:=hide (rd_elems2 hv9);clear hv9 e9 hcell9 hcs9 hA9
  have HNM:=hide (HM.out.each k y HG.out).1
  have hlat:=uL.1 HNM.out.latency
  have HUk:=hide (show vH x.zC (k+1)=entS k y.zI (vH x.zC k) y.zM y.zM.length by show (match x.zC[k]? with|some x=>_|none=>_)=_;rw[HG.out])
  have HRX:=hide (show Below wr.heap.size wr (wr.alloc (.cells #[.string y.zV,.int .i64 y.zI,(.slice ua2 y.zM.length uc2)] 101)) from(Below.refl _ _).alloc (Nat.le_refl _) _)
  have HOX:=hide (show OwI 2 (wr.alloc (.cells #[.string y.zV,.int .i64 y.zI,(.slice ua2 y.zM.length uc2)] 101)) g (.slice (some ⟨g,0,none⟩) x.zC.length x.zC.length) (entS k y.zI (vH x.zC k) y.zM 0) from wO HO.out HRX.out);have HBX:=hide (yJ HB.out HB.out.size HRX.out);have HKX:=hide (HK.out.alloc (.cells #[.string y.zV,.int .i64 y.zI,(.slice ua2 y.zM.length uc2)] 101));have HNX:=hide (Bk.born wr 101 #[.string y.zV,.int .i64 y.zI,(.slice ua2 y.zM.length uc2)])
  have hgB:g<wr.heap.size:=hgw;have hBX:wr.heap.size<(wr.alloc (.cells #[.string y.zV,.int .i64 y.zI,(.slice ua2 y.zM.length uc2)] 101)).heap.size:=HNX.out.lt
  clear ka la;have ka:=HKX.out.cell;have la:=HKX.out.lt;have kn:=HNX.out.cell;have ln:=HNX.out.lt
  go_wp2
  generalize hWX:(wr.alloc (.cells #[.string y.zV,.int .i64 y.zI,(.slice ua2 y.zM.length uc2)] 101))=WX at *;clear hWX
  generalize hB1:wr.heap.size=B1 at *
  have HB1q:=hide hB1;clear hB1
  go_loopw [23] (fun i wr=> ∃ q:Nat,q≤y.zM.length∧i= .int .i64 (q:Int)∧OwI 2 wr g (.slice (some ⟨g,0,none⟩) x.zC.length x.zC.length) (entS k y.zI (vH x.zC k) y.zM q)∧Below w.heap.size w wr∧Bk wr w.heap.size 30 #[(.slice (some ⟨b1,off,none⟩) x.zC.length vc0)]∧Bk wr B1 101 #[.string y.zV,.int .i64 y.zI,(.slice ua2 y.zM.length uc2)]) (fun i _=>y.zM.length - (intOf i).toNat)
  case atStart=>exact⟨0,Nat.zero_le _,rfl,HOX.out,HBX.out,HKX.out,HNX.out⟩
  case round=>
   obtain⟨q,hq,rfl,ho,hbw,hbk,hbn⟩:=hrel
   have HOi:=hide ho;have HBi:=hide hbw;have HKi:=hide hbk;have HNi:=hide hbn;clear ho hbw hbk hbn ka la kn ln
   have ka:=HKi.out.cell;have la:=HKi.out.lt;have kn:=HNi.out.cell;have ln:=HNi.out.lt
   by_cases hlq:q<y.zM.length
   rotate_left
   ·
    obtain rfl:q=y.zM.length:=by omega
    have hg9:g<wr.heap.size:=(HOi.out.lt g rfl).2
    go_wp2
    go_roundw
    case rel=>exact⟨k+1,by omega,by go_num,by rw[HUk.out];exact HOi.out,HBi.out,HKi.out,hg9⟩
    case measure=>simp[intOf];omega
   have hgq:=gE hlq
   obtain⟨b2,off2,cs2,hA2,hb2,hcs2,hcell2⟩:=UX2.out q y.zM[q] hgq
   subst hA2
   generalize y.zM[q]=z at *
   have HGZ:=hide hgq;clear hgq
   obtain rfl:=xM.yO (show T.rds _ _ _ by simpa only[xM.t,T.rd] using hcs2)
   have s0:=(HBi.out.cell hb2).trans (hcell2 0 (.int .i64 z.zW) rfl)
   have s1:=(HBi.out.cell hb2).trans (hcell2 1 (.int .i64 z.zS) rfl)
   rw[show off2+(q * 2+0)=off2+q * 2 by omega] at s0
   rw[show off2+(q * 2+1)=off2+q * 2+1 by omega] at s1
   clear hcs2 hcell2
   have lb2:b2<wr.heap.size:=lL hb2 HBi.out.size
   obtain⟨t0,t1,_⟩:=vX HM.out HG.out q z HGZ.out
   have n0:0≤z.zW:=by omega
   have HES:=hide (show entS k y.zI (vH x.zC k) y.zM (q+1)=(entS k y.zI (vH x.zC k) y.zM q).set z.zW.toNat (max ((entS k y.zI (vH x.zC k) y.zM q).getD z.zW.toNat 0) ((entS k y.zI (vH x.zC k) y.zM q).getD k 0+y.zI)) by show (match y.zM[q]? with|some s=>_|none=>_)=_;rw[HGZ.out])
   have hUq:=((entS_upper (i:=k) (lat:=y.zI) (out:=vH x.zC k) (l:=y.zM) (B:=32 * ((k+1:Nat):Int)) (fun j=>(HUP.out k j).1) (by have:=(HUP.out k k).2;omega) hlat.1 ((HUP.out k).mono (by omega)) (fun s hs e=>by obtain⟨j,hj⟩:=List.mem_iff_getElem?.1 hs;have:=(vX HM.out HG.out j s hj).1;omega) q).1) k
   have HUq:=hide hUq;clear hUq
   have hlen:(entS k y.zI (vH x.zC k) y.zM q).length=x.zC.length:=by rw[length_entS,zEz]
   generalize hR:entS k y.zI (vH x.zC k) y.zM q=R at *
   have hzt:z.zW.toNat<R.length:=by omega
   have hkt:k<R.length:=by omega
   have HgA:=hide (gE hzt);have HgB:=hide (gE hkt)
   have HDA:=hide (show R.getD z.zW.toNat 0=R[z.zW.toNat] by rw[List.getD_eq_getElem?_getD,HgA.out];rfl);have HDB:=hide (show R.getD k 0=R[k] by rw[List.getD_eq_getElem?_getD,HgB.out];rfl)
   generalize R[z.zW.toNat]=ta at *;generalize R[k]=tb at *
   have hbd:0≤tb∧tb≤1000:=by have h:=HUq.out;rw[HDB.out] at h;omega
   have hw:IntKind.i64.wrap (tb+y.zI)=tb+y.zI:=IntWalk.i64_in _ (by omega)
   have HAZ:=hide (show Below wr.heap.size wr (wr.alloc (.cells #[.int .i64 z.zW,.int .i64 z.zS] 98)) from(Below.refl _ _).alloc (Nat.le_refl _) _)
   have HOz:=hide (show OwI 2 (wr.alloc (.cells #[.int .i64 z.zW,.int .i64 z.zS] 98)) g (.slice (some ⟨g,0,none⟩) x.zC.length x.zC.length) R from wO HOi.out HAZ.out);have HBz:=hide (yJ HBi.out HBi.out.size HAZ.out);have HKz:=hide (HKi.out.alloc (.cells #[.int .i64 z.zW,.int .i64 z.zS] 98));have HNz:=hide (HNi.out.alloc (.cells #[.int .i64 z.zW,.int .i64 z.zS] 98));have HZz:=hide (Bk.born wr 98 #[.int .i64 z.zW,.int .i64 z.zS])
   have hg8:g<wr.heap.size:=(HOi.out.lt g rfl).2
   clear ka la kn ln;have ka:=HKz.out.cell;have la:=HKz.out.lt;have kn:=HNz.out.cell;have ln:=HNz.out.lt;have kz:=HZz.out.cell;have lz:=HZz.out.lt
   go_wp2
   generalize hWZ:(wr.alloc (.cells #[.int .i64 z.zW,.int .i64 z.zS] 98))=WZ at *;clear hWZ
   generalize hB2:wr.heap.size=B2 at *;clear hB2 ka la kn ln kz lz s0 s1
   have HCA:=hide (HOz.out.cellN HgA.out);have HCB:=hide (HOz.out.cellN HgB.out);have HFR:=hide (HOz.out.freeN z.zW.toNat)
   have HWd:=hide (show (∀ i,WZ.drew.cell? ⟨B2,i,none⟩= #[.int .i64 z.zW,.int .i64 z.zS][i]?)∧(∀ i,WZ.drew.cell? ⟨B1,i,none⟩= #[.string y.zV,.int .i64 y.zI,(.slice (some ⟨b2,off2,none⟩) y.zM.length uc2)][i]?)∧WZ.drew.cell? ⟨g,z.zW.toNat,none⟩=some (.int .i64 ta)∧WZ.drew.cell? ⟨g,k,none⟩=some (.int .i64 tb) from⟨HZz.out.cell,HNz.out.cell,HCA.out,HCB.out⟩)
   have HOd:=hide (show OwI 2 WZ.drew g (.slice (some ⟨g,0,none⟩) x.zC.length x.zC.length) R from wO HOz.out (Below.refl WZ.heap.size WZ).drew);have HBd:=hide HBz.out.drew;have HKd:=hide (Bk.drew HKz.out);have HNd:=hide (Bk.drew HNz.out)
   have hmx:ta<tb+y.zI∨ ¬ ta<tb+y.zI:=by omega
   rcases hmx with hmx|hmx
   ·
    have HMX:=hide (show max ta (tb+y.zI)=tb+y.zI by omega)
    refine wK (fun w'=>(∀ i,w'.cell? ⟨B2,i,none⟩= #[.int .i64 z.zW,.int .i64 z.zS][i]?)∧(∀ i,w'.cell? ⟨B1,i,none⟩= #[.string y.zV,.int .i64 y.zI,(.slice (some ⟨b2,off2,none⟩) y.zM.length uc2)][i]?)∧w'.cell? ⟨g,z.zW.toNat,none⟩=some (.int .i64 ta)∧w'.cell? ⟨g,k,none⟩=some (.int .i64 tb)) 17 (by kernel_rfl) ?_ (fun hS0=>?_)
    ·exact HWd.out
    generalize hwd:WZ.drew=wd at *;clear hwd
    refine tE 0 hS0 ?_
    refine tE 1 hS0 ?_
    refine tE 2 hS0 ?_
    refine tE 3 hS0 ?_
    refine tE 4 hS0 ?_
    refine tE 5 hS0 ?_
    refine tE 6 hS0 ?_
    refine tE 7 hS0 ?_
    refine tE 8 hS0 ?_
    refine tE 9 hS0 ?_
    refine tE 10 hS0 ?_
    refine tE 11 hS0 ?_
    refine tE 12 hS0 ?_
    refine tE 13 hS0 ?_
    refine tE 14 hS0 ?_
    refine tE 15 hS0 ?_
    refine tE 16 hS0 ?_
    refine wJ (o:=_) (by kernel_rfl) rfl (by kernel_rfl) ?_
    have ck:=HWd.out.2.2.1;have fr:=HOd.out.freeN z.zW.toNat
    go_wp2
    have HO2:=hide (HOd.out.setN z.zW.toNat (tb+y.zI));have HG2:=hide (HOd.out.grownN z.zW.toNat (.int .i64 (tb+y.zI)))
    have HK2:=hide (HKd.out.far (p:=⟨g,z.zW.toNat,none⟩) (show w.heap.size≠g by omega) (.int .i64 (tb+y.zI)));have HN2:=hide (HNd.out.far (p:=⟨g,z.zW.toNat,none⟩) (show B1≠g by omega) (.int .i64 (tb+y.zI)))
    go_roundw
    case rel=>exact⟨q+1,by omega,by go_num,by rw[HES.out,HDA.out,HDB.out,HMX.out];exact HO2.out,HBd.out.grown HG2.out HBd.out.size (fun j hj=>by injection hj with hj;omega),HK2.out,HN2.out⟩
    case measure=>simp[intOf];omega
   ·
    have HMX:=hide (show max ta (tb+y.zI)=ta by omega)
    refine wK (fun w'=>(∀ i,w'.cell? ⟨B2,i,none⟩= #[.int .i64 z.zW,.int .i64 z.zS][i]?)∧(∀ i,w'.cell? ⟨B1,i,none⟩= #[.string y.zV,.int .i64 y.zI,(.slice (some ⟨b2,off2,none⟩) y.zM.length uc2)][i]?)∧w'.cell? ⟨g,z.zW.toNat,none⟩=some (.int .i64 ta)∧w'.cell? ⟨g,k,none⟩=some (.int .i64 tb)) 17 (by kernel_rfl) ?_ (fun hS0=>?_)
    ·exact HWd.out
    generalize hwd:WZ.drew=wd at *;clear hwd
    refine tE 0 hS0 ?_
    refine tE 1 hS0 ?_
    refine tE 2 hS0 ?_
    refine tE 3 hS0 ?_
    refine tE 4 hS0 ?_
    refine tE 5 hS0 ?_
    refine tE 6 hS0 ?_
    refine tE 7 hS0 ?_
    refine tE 8 hS0 ?_
    refine tE 9 hS0 ?_
    refine tE 10 hS0 ?_
    refine tE 11 hS0 ?_
    refine tE 12 hS0 ?_
    refine tE 13 hS0 ?_
    refine tE 14 hS0 ?_
    refine tE 15 hS0 ?_
    refine tE 16 hS0 ?_
    refine wJ (o:=_) (by kernel_rfl) rfl (by kernel_rfl) ?_
    have ck:=HWd.out.2.2.1;have fr:=HOd.out.freeN z.zW.toNat
    go_wp2
    have HO2:=hide (HOd.out.setN z.zW.toNat ta);have HG2:=hide (HOd.out.grownN z.zW.toNat (.int .i64 ta))
    have HK2:=hide (HKd.out.far (p:=⟨g,z.zW.toNat,none⟩) (show w.heap.size≠g by omega) (.int .i64 ta));have HN2:=hide (HNd.out.far (p:=⟨g,z.zW.toNat,none⟩) (show B1≠g by omega) (.int .i64 ta))
    go_roundw
    case rel=>exact⟨q+1,by omega,by go_num,by rw[HES.out,HDA.out,HDB.out,HMX.out];exact HO2.out,HBd.out.grown HG2.out HBd.out.size (fun j hj=>by injection hj with hj;omega),HK2.out,HN2.out⟩
    case measure=>simp[intOf];omega
end
section
open Go.RowKit
theorem total_facts {x:xU} (h:vU x): ∃ (a:Int) (y:xH),x.zC[x.zC.length - 1]?=some y∧(xV x)[x.zC.length - 1]?=some a∧0≤a∧a≤256∧0≤y.zI∧y.zI≤32∧vN x=a+y.zI∧1≤x.zC.length∧x.zC.length≤8:=by
 have h1:=h.some_;have h8:=h.few
 have hl:x.zC.length - 1<x.zC.length:=by omega
 have hg:=gE hl
 have hl2:x.zC.length - 1<(xV x).length:=by rw[vG];exact hl
 have hg2:=gE hl2
 have hu:=zBz h (x.zC.length - 1)
 have hlat:=uL.1 (h.each _ _ hg).1.latency
 rw[List.getD_eq_getElem?_getD,hg2] at hu
 refine⟨_,_,hg,hg2,hu.1,hu.2,hlat.1,hlat.2,?_,h1,h8⟩
 unfold vN
 rw[List.getD_eq_getElem?_getD,hg2,List.getD_eq_getElem?_getD,hg]
 rfl
theorem c_l26Total (x:xU) (b o:Nat) (w:World) (hM:vU x) (hg:x.good) (h:T.at w x.fs b o):Calls Tryz.prog 129 #[.pointer (some ⟨b,o,none⟩)] w fun e w'=>e= .returned (.int .i64 (vN x))∧Below w.heap.size w w':=by
 have HAT:=hide h
 obtain⟨hlt0,cs,hr,hc⟩:=h
 obtain⟨v0,rfl,h0⟩:=xU.yO hr
 clear hr
 have R0:=hide h0;obtain⟨va0,vc0,rfl,vl0,vm0,vx0⟩:=T.yN h0
 have HX0:=hide vx0;clear vx0 h0
 have HL:=hide hlt0;have HCC:=hide hc;have HB0:=hide (Below.refl w.heap.size w);clear hlt0 hc
 obtain⟨ta,y,hgy,hga,a0,a1,l0,l1,ht,n1,n8⟩:=total_facts hM
 have HT:=hide ht;have HGA:=hide hga;clear ht hga
 have HCE:=hide (fun(W:World) (h:T.at W x.fs b o)=>c_l26Entries x b o W hM hg h)
 obtain⟨b1,off,cs1,rfl,hb1,hcs,hcell⟩:=HX0.out _ y hgy
 obtain⟨v9,rfl,hv9⟩:=xH.yO (show T.rds _ _ _ by simpa only[xH.t,T.rd] using hcs)
 have e1:=hcell 1 _ rfl
 obtain⟨m,hm⟩: ∃ m:Nat,x.zC.length - 1=m:=⟨_,rfl⟩
 rw[hm] at e1 HGA
 rw[show off+(m * 3+1)=off+m * 3+1 by omega] at e1
 have hm1:(x.zC.length:Int) - 1=(m:Int):=by omega
 have hw0:IntKind.i64.wrap ((x.zC.length:Int) - 1)=(m:Int):=by rw[hm1];exact IntWalk.i64_in _ (by omega)
 have hw:IntKind.i64.wrap (ta+y.zI)=ta+y.zI:=IntWalk.i64_in _ (by omega)
 have hml:(m:Int)<(x.zC.length:Int):=by omega
 have HMM:=hide hm;have HM1:=hide hm1;clear hm hm1 hcell hcs hv9 hgy hM hg
 have p0:w.cell? ⟨b,o,none⟩=some (.slice (some ⟨b1,off,none⟩) x.zC.length vc0):=(HB0.out.cell HL.out).trans (HCC.out 0 _ rfl)
 have lb:b<w.heap.size:=lL HL.out HB0.out.size
 generalize vN x=OO at *
 go_enter Tryz.func129,Tryz.ntmps129
 go_wp2
 have HWd:=hide (show w.drew.cell? ⟨b,o,none⟩=some (.slice (some ⟨b1,off,none⟩) x.zC.length vc0)∧w.drew.cell? ⟨b1,off+m * 3+1,none⟩=some (.int .i64 y.zI) from⟨p0,e1⟩);have HBd:=hide (Below.refl w.heap.size w).drew;have HATd:=hide (T.at_below HAT.out (Below.refl w.heap.size w).drew)
 refine wE (fun w'=>w'.cell? ⟨b,o,none⟩=some (.slice (some ⟨b1,off,none⟩) x.zC.length vc0)∧w'.cell? ⟨b1,off+m * 3+1,none⟩=some (.int .i64 y.zI)) [] (by kernel_rfl) ?_ (fun hS0=>?_)
 ·exact HWd.out
 have hdz:w.drew.heap.size=w.heap.size:=rfl
 clear p0 e1 lb
 generalize w.drew=wd at *
 refine tN 0 hS0 ?_
 refine tN 2 hS0 ?_
 refine tN 3 hS0 ?_
 refine tN 6 hS0 ?_
 refine tN 7 hS0 ?_
 refine tN 8 hS0 ?_
 refine tN 9 hS0 ?_
 refine tN 10 hS0 ?_
 refine tN 11 hS0 ?_
 refine tN 12 hS0 ?_
 refine tN 13 hS0 ?_
 refine tN 14 hS0 ?_
 refine oN 1 (fun K hK=>?_)
 go_simp
 go_wp2_with (go_at_call 182;refine(HCE.out _ HATd.out).mono ?_;rintro e w3 ⟨v3,rfl,ho,hb⟩)
 obtain⟨g,cp,rfl,hcp,hgg,hgw⟩:=OwI.form ho (by rw[vG];omega)
 have ck:=OwI.cellN ho HGA.out;have HB3:=hide (yJ HBd.out (by omega) hb);have HW3:=hide (show w3.cell? ⟨b,o,none⟩=some (.slice (some ⟨b1,off,none⟩) x.zC.length vc0)∧w3.cell? ⟨b1,off+m * 3+1,none⟩=some (.int .i64 y.zI) from⟨(hb.cell (World.block_lt_of_cell? _ _ HWd.out.1)).trans HWd.out.1,(hb.cell (World.block_lt_of_cell? _ _ HWd.out.2)).trans HWd.out.2⟩);clear ho hb
 have hel:(xV x).length=x.zC.length:=vG x
 refine uN hK ?_ (fun hS1=>?_)
 ·exact HW3.out
 clear hK K hS0
 refine oN 4 (fun K hK=>?_)
 go_simp
 refine uN hK ?_ (fun hS2=>?_)
 ·exact HW3.out
 clear hK K hS1
 refine oN 5 (fun K hK=>?_)
 go_simp
 refine uN hK ?_ (fun hS3=>?_)
 ·exact HW3.out
 clear hK K hS2
 refine oN 15 (fun K hK=>?_)
 go_simp
 refine uN hK ?_ (fun hS4=>?_)
 ·exact HW3.out
 clear hK K hS3
 refine oN 16 (fun K hK=>?_)
 go_simp
 refine uN hK ?_ (fun hS5=>?_)
 ·exact HW3.out
 clear hK K hS4
 refine xY (by kernel_rfl) ?_
 clear hS5
 go_wp2
 go_ret
 exact⟨xZ (by rw[HT.out]),HB3.out⟩
theorem c_latency (x:xU) (cs:List Value) (w:World) (hM:vU x) (hg:x.good) (h:T.rds w x.fs cs):Calls Tryz.prog 190 #[.agg cs.toArray] w fun e w'=>e= .returned (.int .i64 (vN x))∧Below w.heap.size w w':=by
 obtain⟨v0,rfl,h0⟩:=xU.yO h
 clear h
 have R0:=hide h0;obtain⟨va0,vc0,rfl,vl0,vm0,vx0⟩:=T.yN h0
 have HX0:=hide vx0;clear vx0 h0
 have HB0:=hide (show Below w.heap.size w (w.alloc (.cells #[(.slice va0 x.zC.length vc0)] 30)) from(Below.refl _ _).alloc (Nat.le_refl _) _)
 have HK0:=hide (Bk.born w 30 #[(.slice va0 x.zC.length vc0)])
 obtain⟨ta,y,hgy,hga,a0,a1,l0,l1,ht,n1,n8⟩:=total_facts hM
 have HT:=hide ht;have HGA:=hide hga;clear ht hga
 have HCE:=hide (fun(W:World) (cs:List Value) (h:T.rds W x.fs cs)=>c_entries x cs W hM hg h)
 obtain⟨b1,off,cs1,rfl,hb1,hcs,hcell⟩:=HX0.out _ y hgy
 obtain⟨v9,rfl,hv9⟩:=xH.yO (show T.rds _ _ _ by simpa only[xH.t,T.rd] using hcs)
 have e1:=hcell 1 _ rfl
 obtain⟨m,hm⟩: ∃ m:Nat,x.zC.length - 1=m:=⟨_,rfl⟩
 rw[hm] at e1 HGA
 rw[show off+(m * 3+1)=off+m * 3+1 by omega] at e1
 have hm1:(x.zC.length:Int) - 1=(m:Int):=by omega
 have hw0:IntKind.i64.wrap ((x.zC.length:Int) - 1)=(m:Int):=by rw[hm1];exact IntWalk.i64_in _ (by omega)
 have hw:IntKind.i64.wrap (ta+y.zI)=ta+y.zI:=IntWalk.i64_in _ (by omega)
 have hml:(m:Int)<(x.zC.length:Int):=by omega
 have HM1:=hide hm1;clear hm hm1 hcell hcs hv9 hgy hM hg
 generalize vN x=OO at *
 go_enter Tryz.func190,Tryz.ntmps190
 go_wp2
 generalize (w.alloc (.cells #[(.slice (some ⟨b1,off,none⟩) x.zC.length vc0)] 30))=W at *
 have HWd:=hide (show (∀ i,W.drew.cell? ⟨w.heap.size,i,none⟩= #[(.slice (some ⟨b1,off,none⟩) x.zC.length vc0)][i]?)∧W.drew.cell? ⟨b1,off+m * 3+1,none⟩=some (.int .i64 y.zI) from⟨HK0.out.cell,(HB0.out.cell hb1).trans e1⟩)
 have HBd:=hide HB0.out.drew;have HRd:=hide (show T.rds W.drew x.fs [(.slice (some ⟨b1,off,none⟩) x.zC.length vc0)] from xU.rd_mk (T.yF R0.out HBd.out));have hsd:=HBd.out.size
 refine wE (fun w'=>(∀ i,w'.cell? ⟨w.heap.size,i,none⟩= #[(.slice (some ⟨b1,off,none⟩) x.zC.length vc0)][i]?)∧w'.cell? ⟨b1,off+m * 3+1,none⟩=some (.int .i64 y.zI)) [] (by kernel_rfl) ?_ (fun hS0=>?_)
 ·exact HWd.out
 clear e1
 have HKd:=hide (Bk.drew HK0.out)
 generalize W.drew=wd at *
 refine tN 0 hS0 ?_
 refine tN 2 hS0 ?_
 refine tN 5 hS0 ?_
 refine tN 6 hS0 ?_
 refine tN 7 hS0 ?_
 refine tN 8 hS0 ?_
 refine tN 9 hS0 ?_
 refine tN 10 hS0 ?_
 refine oN 1 (fun K hK=>?_)
 go_simp
 go_wp2_with (go_at_call 191;refine(HCE.out _ _ HRd.out).mono ?_;rintro e w3 ⟨v3,rfl,ho,hb⟩)
 obtain⟨g,cp,rfl,hcp,hgg,hgw⟩:=OwI.form ho (by rw[vG];omega)
 have ck:=OwI.cellN ho HGA.out;have HB3:=hide (yJ HBd.out hsd hb);have HW3:=hide (show (∀ i,w3.cell? ⟨w.heap.size,i,none⟩= #[(.slice (some ⟨b1,off,none⟩) x.zC.length vc0)][i]?)∧w3.cell? ⟨b1,off+m * 3+1,none⟩=some (.int .i64 y.zI) from⟨(HKd.out.below hb HKd.out.lt).cell,(hb.cell (World.block_lt_of_cell? _ _ HWd.out.2)).trans HWd.out.2⟩);clear ho hb
 have hel:(xV x).length=x.zC.length:=vG x
 refine uN hK ?_ (fun hS1=>?_)
 ·exact HW3.out
 clear hK K hS0
 refine oN 3 (fun K hK=>?_)
 go_simp
 refine uN hK ?_ (fun hS2=>?_)
 ·exact HW3.out
 clear hK K hS1
 refine oN 4 (fun K hK=>?_)
 go_simp
 refine uN hK ?_ (fun hS3=>?_)
 ·exact HW3.out
 clear hK K hS2
 refine oN 11 (fun K hK=>?_)
 go_simp
 refine uN hK ?_ (fun hS4=>?_)
 ·exact HW3.out
 clear hK K hS3
 refine oN 12 (fun K hK=>?_)
 go_simp
 refine uN hK ?_ (fun hS5=>?_)
 ·exact HW3.out
 clear hK K hS4
 refine xY (by kernel_rfl) ?_
 clear hS5
 go_wp2
 go_ret
 exact⟨xZ (by rw[HT.out]),HB3.out⟩
end
end Go.Proofs.YtoibekfhepnedaaGreat
