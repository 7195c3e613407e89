/- Contract: the signal of a track, by the program. Contract: entry times of a mixer, by the reference. -/
import Derived.Test.YtoibekfhepnedaaGreatQBbExactSoundCache
import Derived.Test.YtoibekfhepnedaaGreatQAzExactSoundCache
import Derived.Test.YtoibekfhepnedaaGreatQBcExactSoundCache
import Derived.Test.YtoibekfhepnedaaGreatQAjExactSoundCache
import Derived.Test.YtoibekfhepnedaaGreatQAmExactSoundCache
set_option linter.unusedVariables false
set_option linter.unusedSimpArgs false
set_option maxHeartbeats 8000000
set_option maxRecDepth 100000
section
namespace Go.Proofs.YtoibekfhepnedaaGreat
open Go.RowKit
theorem src_smp {ss:List (List Int)} (h:SourcesOk ss) {i:Nat} {l:List Int} (hl:ss[i]?=some l): ∀ x ∈ l,Smp x:=by
 have e:=h.each i l hl
 unfold sigB at e
 simp only[Bool.and_eq_true,smpB,decide_eq_true_eq] at e
 exact e.2
theorem c_renderTrack (x:GTrack) (cs:List Value) (sources:List (List Int)) (sv:Value) (n:Nat) (w:World) (hT:TrackOk x) (hS:SourcesOk sources) (hc:Each x.zQ fun _ c=>c.zT<(sources.length:Int)) (hn:n≤4000) (hr:T.rd w (T.sl 26 1 (sources.map (T.ints 2))) [sv]) (h:T.rds w x.fs cs):Calls Tryz.prog 194 #[sv,.agg cs.toArray,.int .i64 (n:Int)] w fun e w'=> ∃ v,e= .returned v∧OwI 2 w' w.heap.size v (trackF sources x n)∧Below w.heap.size w w':=by
 obtain⟨v0,rfl,h0⟩:=GTrack.yN h
 clear h
 have R0:=hide h0;obtain⟨va0,vc0,rfl,vl0,vm0,vx0⟩:=T.yM h0
 have HX0:=hide vx0;clear vx0 h0
 have HB0:=hide (show Below w.heap.size w (w.alloc (.cells #[(.slice va0 x.zQ.length vc0)] 96)) from(Below.refl _ _).alloc (Nat.le_refl _) _)
 have HK0:=hide (Bk.born w 96 #[(.slice va0 x.zQ.length vc0)])
 have HTO:=hide hT;have HSO:=hide hS;have HCS:=hide hc;clear hT hS hc
 obtain⟨SA,sc,rfl,sl_,sm,sx⟩:=T.yM hr
 have HSX:=hide sx;clear sx hr
 have HALL:=hide (show trackUp sources x.zQ n x.zQ.length=trackF sources x n from rfl)
 go_enter Tryz.func194,Tryz.ntmps194
 go_wp2_with fail
 refine(c_zerosE n _ (by omega)).mono ?_;rintro e w1 ⟨rfl,ho,hd⟩
 have HOz:=hide ho;clear ho
 have hb:Below (w.alloc (.cells #[(.slice va0 x.zQ.length vc0)] 96)).heap.size (w.alloc (.cells #[(.slice va0 x.zQ.length vc0)] 96)) w1:=by first|exact hd|exact hd.to_below _|exact hd ▸ Below.refl _ _
 have HK1:=hide (HK0.out.below hb HK0.out.lt);have HB1:=hide (yI HB0.out HB0.out.size hb);clear hb hd;have ka:=HK1.out.cell;have la:=HK1.out.lt
 have hgz:w.heap.size<(w.alloc (.cells #[(.slice va0 x.zQ.length vc0)] 96)).heap.size:=by simp
 generalize (w.alloc (.cells #[(.slice va0 x.zQ.length vc0)] 96)).heap.size=g at *
 have HO1:=hide (show OwI 2 w1 g (.slice (some ⟨g,0,none⟩) n n) (trackUp sources x.zQ n 0) from HOz.out)
 have hg1:g<w1.heap.size:=(HOz.out.lt g rfl).2
 clear HOz
 go_wp2
 go_loopw [16] (fun i wr=> ∃ k:Nat,k≤x.zQ.length∧i= .int .i64 (k:Int)∧OwI 2 wr g (.slice (some ⟨g,0,none⟩) n n) (trackUp sources x.zQ n k)∧Below w.heap.size w wr∧Bk wr w.heap.size 96 #[(.slice va0 x.zQ.length vc0)]∧g<wr.heap.size) (fun i _=>x.zQ.length - (intOf i).toNat)
 case atStart=>exact⟨0,Nat.zero_le _,rfl,HO1.out,HB1.out,HK1.out,hg1⟩
 case round=>
  obtain⟨k,hk,rfl,ho,hbw,hbk,hgw⟩:=hrel
  have HO:=hide ho;have HB:=hide hbw;have HK:=hide hbk;clear ho hbw hbk ka la
  have ka:=HK.out.cell;have la:=HK.out.lt
  by_cases hlt:k<x.zQ.length
  rotate_left
  ·
   obtain rfl:k=x.zQ.length:=by omega
   go_wp2
   go_ret
   exact⟨_,rfl,by rw[←HALL.out];exact own_more HO.out (by omega),HB.out⟩
  have hgk:=List.getElem?_eq_getElem hlt
  obtain⟨b1,off,cs1,hA,hb1,hcs,hcell⟩:=HX0.out k x.zQ[k] hgk
  subst hA
  generalize x.zQ[k]=y at *
  have HG:=hide hgk;clear hgk
  obtain rfl:=GClip.yN (show T.rds _ _ _ by simpa only[GClip.t,T.rd] using hcs)
  have d0:=(HB.out.cell hb1).trans (hcell 0 (.int .i64 y.zT) rfl)
  have d1:=(HB.out.cell hb1).trans (hcell 1 (.int .i64 y.zH) rfl)
  have d2:=(HB.out.cell hb1).trans (hcell 2 (.int .i64 y.zG) rfl)
  have d3:=(HB.out.cell hb1).trans (hcell 3 (.int .i64 y.zX) rfl)
  have d4:=(HB.out.cell hb1).trans (hcell 4 (.int .i64 y.zR) rfl)
  rw[show off+(k * 5+0)=off+k * 5 by omega] at d0
  rw[show off+(k * 5+1)=off+k * 5+1 by omega] at d1
  rw[show off+(k * 5+2)=off+k * 5+2 by omega] at d2
  rw[show off+(k * 5+3)=off+k * 5+3 by omega] at d3
  rw[show off+(k * 5+4)=off+k * 5+4 by omega] at d4
  clear hcs hcell
  have hq1:b1<wr.heap.size:=Nat.lt_of_lt_of_le hb1 HB.out.size
  have hok:=(HTO.out.clips k y HG.out).1;have hso:=HCS.out k y HG.out
  have i1:=yZ.1 hok.source;have i2:=yZ.1 hok.length;have i3:=yZ.1 hok.from_;have i4:=yZ.1 hok.at_;have HGN:=hide hok.gain;clear hok
  have hsj:y.zT.toNat<sources.length:=by omega
  have hgs:=List.getElem?_eq_getElem hsj
  obtain⟨b5,o5,c5,rfl,hb5,hcs5,hcell5⟩:=HSX.out _ _ hgs
  have HSM:=hide (src_smp HSO.out hgs);have HSD:=hide (show sources.getD y.zT.toNat []=sources[y.zT.toNat] by rw[List.getD_eq_getElem?_getD,hgs];rfl)
  generalize sources[y.zT.toNat]=src at *
  obtain⟨v5,rfl⟩:=T.rd_one hcs5
  have e0:=hcell5 0 v5 rfl
  rw[Nat.mul_one,Nat.add_zero] at e0
  have RS:=hide (T.yR.1 hcs5);clear hcs5 hcell5 hgs
  obtain⟨A5,c5,rfl,l5,m5,x5⟩:=RS.out.open_;clear x5
  have HE0:=hide e0;clear e0
  have HUk:=hide (show trackUp sources x.zQ n (k+1)=clipUp y src (trackUp sources x.zQ n k) (clipN y n) by show (match x.zQ[k]? with|some c=>_|none=>_)=_;rw[HG.out,←HSD.out])
  have HRX:=hide (show Below wr.heap.size wr (wr.alloc (.cells #[.int .i64 y.zT,.int .i64 y.zH,.int .i64 y.zG,.int .i64 y.zX,.int .i64 y.zR] 39)) from(Below.refl _ _).alloc (Nat.le_refl _) _)
  have HOX:=hide (show OwI 2 (wr.alloc (.cells #[.int .i64 y.zT,.int .i64 y.zH,.int .i64 y.zG,.int .i64 y.zX,.int .i64 y.zR] 39)) g (.slice (some ⟨g,0,none⟩) n n) (clipUp y src (trackUp sources x.zQ n k) 0) from own_all HO.out HRX.out);have HBX:=hide (yI HB.out HB.out.size HRX.out);have HKX:=hide (HK.out.alloc (.cells #[.int .i64 y.zT,.int .i64 y.zH,.int .i64 y.zG,.int .i64 y.zX,.int .i64 y.zR] 39));have HNX:=hide (Bk.born wr 39 #[.int .i64 y.zT,.int .i64 y.zH,.int .i64 y.zG,.int .i64 y.zX,.int .i64 y.zR])
  have hgB:g<wr.heap.size:=hgw;have hBX:wr.heap.size<(wr.alloc (.cells #[.int .i64 y.zT,.int .i64 y.zH,.int .i64 y.zG,.int .i64 y.zX,.int .i64 y.zR] 39)).heap.size:=HNX.out.lt
  clear ka la;have ka:=HKX.out.cell;have la:=HKX.out.lt;have kn:=HNX.out.cell;have ln:=HNX.out.lt
  have hcn:clipN y n=min y.zG.toNat (n - y.zX.toNat):=rfl
  go_wp2
  generalize hWX:(wr.alloc (.cells #[.int .i64 y.zT,.int .i64 y.zH,.int .i64 y.zG,.int .i64 y.zX,.int .i64 y.zR] 39))=WX at *;clear hWX
  generalize hB1:wr.heap.size=B1 at *
  have HB1q:=hide hB1;clear hB1
  go_loopw [10] (fun i wr=> ∃ q:Nat,q≤clipN y n∧i= .int .i64 (q:Int)∧OwI 2 wr g (.slice (some ⟨g,0,none⟩) n n) (clipUp y src (trackUp sources x.zQ n k) q)∧Below w.heap.size w wr∧Bk wr w.heap.size 96 #[(.slice (some ⟨b1,off,none⟩) x.zQ.length vc0)]∧Bk wr B1 39 #[.int .i64 y.zT,.int .i64 y.zH,.int .i64 y.zG,.int .i64 y.zX,.int .i64 y.zR]) (fun i _=>clipN y n - (intOf i).toNat)
  case atStart=>exact⟨0,Nat.zero_le _,rfl,HOX.out,HBX.out,HKX.out,HNX.out⟩
  case round=>
   obtain⟨q,hq,rfl,ho,hbw,hbk,hbn⟩:=hrel
   have HOi:=hide ho;have HBi:=hide hbw;have HKi:=hide hbk;have HNi:=hide hbn;clear ho hbw hbk hbn ka la kn ln
   have ka:=HKi.out.cell;have la:=HKi.out.lt;have kn:=HNi.out.cell;have ln:=HNi.out.lt
   have hwA:IntKind.i64.wrap (y.zX+(q:Int))=y.zX+(q:Int):=IntWalk.i64_in _ (by omega)
   by_cases hlq:q<clipN y n
   rotate_left
   ·
    obtain rfl:q=clipN y n:=by omega
    have hg9:g<wr.heap.size:=(HOi.out.lt g rfl).2
    have HREL:=hide (show OwI 2 wr g (.slice (some ⟨g,0,none⟩) n n) (trackUp sources x.zQ n (k+1)) by rw[HUk.out];exact HOi.out)
    generalize hcq:clipN y n=cq at *
    by_cases hlen:(cq:Int)<y.zG
    ·
     have hno: ¬ (y.zX+(cq:Int)<(n:Int)):=by omega
     go_wp2
     go_roundw
     case rel=>exact⟨k+1,by omega,by go_num,HREL.out,HBi.out,HKi.out,hg9⟩
     case measure=>simp[intOf];omega
    ·
     go_wp2
     go_roundw
     case rel=>exact⟨k+1,by omega,by go_num,HREL.out,HBi.out,HKi.out,hg9⟩
     case measure=>simp[intOf];omega
   have hl1:(q:Int)<y.zG:=by omega
   have hl2:y.zX+(q:Int)<(n:Int):=by omega
   obtain⟨j,hj⟩: ∃ j:Nat,y.zX+(q:Int)=(j:Int):=⟨(y.zX+(q:Int)).toNat,by omega⟩
   have hjA:y.zX.toNat+q=j:=by omega
   have hjn:(j:Int)<(n:Int):=by omega
   have hwj:IntKind.i64.wrap (j:Int)=(j:Int):=IntWalk.i64_in _ (by omega)
   have HCU:=hide (show clipUp y src (trackUp sources x.zQ n k) (q+1)=(clipUp y src (trackUp sources x.zQ n k) q).set j (wrp ((clipUp y src (trackUp sources x.zQ n k) q).getD j 0+y.zR * smpAt src (y.zH+(q:Int)))) by rw[←hjA];rfl)
   have hRl:(clipUp y src (trackUp sources x.zQ n k) q).length=n:=by rw[length_clipUp,length_trackUp]
   have HRS:=hide (smp_clipUp (c:=y) (src:=src) (smp_trackUp (ss:=sources) (l:=x.zQ) (n:=n) k) q)
   generalize hR:clipUp y src (trackUp sources x.zQ n k) q=R at *
   have hjl:j<R.length:=by omega
   have HgA:=hide (List.getElem?_eq_getElem hjl)
   have ht0:=HRS.out R[j] (List.getElem_mem hjl)
   have HDA:=hide (show R.getD j 0=R[j] by rw[List.getD_eq_getElem?_getD,HgA.out];rfl)
   generalize R[j]=t0 at *
   have hwF:IntKind.i64.wrap (y.zH+(q:Int))=y.zH+(q:Int):=IntWalk.i64_in _ (by omega)
   have hs0:=smpAt_smp HSM.out (y.zH+(q:Int))
   obtain⟨s0,hse⟩: ∃ s0,smpAt src (y.zH+(q:Int))=s0:=⟨_,rfl⟩
   have HAT:=hide (fun(W:World) (hr:RdI W (.slice A5 src.length c5) src)=>(by have:=c_at _ src (y.zH+(q:Int)) W (by omega) hr;rw[hse] at this;exact this:Calls Tryz.prog 198 #[.slice A5 src.length c5,.int .i64 (y.zH+(q:Int))] W fun e w'=>e= .returned (.int .i64 s0)∧W=w'))
   rw[hse] at hs0 HCU;clear hse
   have hm:=smp_mul HGN.out hs0
   have hw1:IntKind.i64.wrap (y.zR * s0)=y.zR * s0:=IntWalk.i64_in _ (by omega)
   have hw2:IntKind.i64.wrap (t0+y.zR * s0)=t0+y.zR * s0:=IntWalk.i64_in _ (by unfold Smp at ht0;omega)
   have hsl2:y.zT<(sources.length:Int):=hso
   go_wp2
   have HCA:=hide (HOi.out.cellN HgA.out);have HE5:=hide ((HBi.out.cell hb5).trans HE0.out)
   have HWd:=hide (show (∀ i,wr.drew.cell? ⟨B1,i,none⟩= #[.int .i64 y.zT,.int .i64 y.zH,.int .i64 y.zG,.int .i64 y.zX,.int .i64 y.zR][i]?)∧wr.drew.cell? ⟨g,j,none⟩=some (.int .i64 t0)∧wr.drew.cell? ⟨b5,o5+y.zT.toNat,none⟩=some (.slice A5 src.length c5) from⟨HNi.out.cell,HCA.out,HE5.out⟩)
   have HOd:=hide (show OwI 2 wr.drew g (.slice (some ⟨g,0,none⟩) n n) R from own_all HOi.out (Below.refl wr.heap.size wr).drew);have HBd:=hide HBi.out.drew;have HKd:=hide (Bk.drew HKi.out);have HNd:=hide (Bk.drew HNi.out);have HSd:=hide (show RdI wr.drew (.slice A5 src.length c5) src from RdI.below (RdI.below RS.out HBi.out) (Below.refl wr.heap.size wr).drew)
   clear ka la kn ln
   refine wp_region_E (fun w'=>(∀ i,w'.cell? ⟨B1,i,none⟩= #[.int .i64 y.zT,.int .i64 y.zH,.int .i64 y.zG,.int .i64 y.zX,.int .i64 y.zR][i]?)∧w'.cell? ⟨g,j,none⟩=some (.int .i64 t0)∧w'.cell? ⟨b5,o5+y.zT.toNat,none⟩=some (.slice A5 src.length c5)) 28 (by kernel_rfl) ?_ (fun hS0=>?_)
   ·exact HWd.out
   generalize hwd:wr.drew=wd at *;clear hwd
   refine yV (i:=0) (oi:=_) (v:=?v1) (by kernel_rfl) rfl (by kernel_rfl) (by kernel_rfl) (by kernel_rfl) (fun _ _ _ h=>h) hS0 (by rfl) ?hy1 ?rest1
   case hy1=>(intro w hSw;(try dsimp only at hSw);first|(go_simp;done)|(go_simp;with_reducible rfl))
   try simp only[Act.put,List.setIfInBounds_toArray,List.set_cons_zero,List.set_cons_succ]
   refine yV (i:=1) (oi:=_) (v:=?v2) (by kernel_rfl) rfl (by kernel_rfl) (by kernel_rfl) (by kernel_rfl) (fun _ _ _ h=>h) hS0 (by rfl) ?hy2 ?rest2
   case hy2=>(intro w hSw;(try dsimp only at hSw);first|(go_simp;done)|(go_simp;with_reducible rfl))
   try simp only[Act.put,List.setIfInBounds_toArray,List.set_cons_zero,List.set_cons_succ]
   refine yV (i:=2) (oi:=_) (v:=?v3) (by kernel_rfl) rfl (by kernel_rfl) (by kernel_rfl) (by kernel_rfl) (fun _ _ _ h=>h) hS0 (by rfl) ?hy3 ?rest3
   case hy3=>(intro w hSw;(try dsimp only at hSw);first|(go_simp;done)|(go_simp;with_reducible rfl))
   try simp only[Act.put,List.setIfInBounds_toArray,List.set_cons_zero,List.set_cons_succ]
   refine yV (i:=3) (oi:=_) (v:=?v4) (by kernel_rfl) rfl (by kernel_rfl) (by kernel_rfl) (by kernel_rfl) (fun _ _ _ h=>h) hS0 (by rfl) ?hy4 ?rest4
   case hy4=>(intro w hSw;(try dsimp only at hSw);first|(go_simp;done)|(go_simp;with_reducible rfl))
   try simp only[Act.put,List.setIfInBounds_toArray,List.set_cons_zero,List.set_cons_succ]
   refine yV (i:=4) (oi:=_) (v:=?v5) (by kernel_rfl) rfl (by kernel_rfl) (by kernel_rfl) (by kernel_rfl) (fun _ _ _ h=>h) hS0 (by rfl) ?hy5 ?rest5
   case hy5=>(intro w hSw;(try dsimp only at hSw);first|(go_simp;done)|(go_simp;with_reducible rfl))
   try simp only[Act.put,List.setIfInBounds_toArray,List.set_cons_zero,List.set_cons_succ]
   refine yV (i:=5) (oi:=_) (v:=?v6) (by kernel_rfl) rfl (by kernel_rfl) (by kernel_rfl) (by kernel_rfl) (fun _ _ _ h=>h) hS0 (by rfl) ?hy6 ?rest6
   case hy6=>(intro w hSw;(try dsimp only at hSw);first|(go_simp;done)|(go_simp;with_reducible rfl))
   try simp only[Act.put,List.setIfInBounds_toArray,List.set_cons_zero,List.set_cons_succ]
   refine yV (i:=6) (oi:=_) (v:=?v7) (by kernel_rfl) rfl (by kernel_rfl) (by kernel_rfl) (by kernel_rfl) (fun _ _ _ h=>h) hS0 (by rfl) ?hy7 ?rest7
   case hy7=>(intro w hSw;(try dsimp only at hSw);first|(go_simp;done)|(go_simp;with_reducible rfl))
   try simp only[Act.put,List.setIfInBounds_toArray,List.set_cons_zero,List.set_cons_succ]
   refine yV (i:=7) (oi:=_) (v:=?v8) (by kernel_rfl) rfl (by kernel_rfl) (by kernel_rfl) (by kernel_rfl) (fun _ _ _ h=>h) hS0 (by rfl) ?hy8 ?rest8
   case hy8=>(intro w hSw;(try dsimp only at hSw);first|(go_simp;done)|(go_simp;with_reducible rfl))
   try simp only[Act.put,List.setIfInBounds_toArray,List.set_cons_zero,List.set_cons_succ]
   refine yV (i:=8) (oi:=_) (v:=?v9) (by kernel_rfl) rfl (by kernel_rfl) (by kernel_rfl) (by kernel_rfl) (fun _ _ _ h=>h) hS0 (by rfl) ?hy9 ?rest9
   case hy9=>(intro w hSw;(try dsimp only at hSw);first|(go_simp;done)|(go_simp;with_reducible rfl))
   try simp only[Act.put,List.setIfInBounds_toArray,List.set_cons_zero,List.set_cons_succ]
   refine yV (i:=9) (oi:=_) (v:=?v10) (by kernel_rfl) rfl (by kernel_rfl) (by kernel_rfl) (by kernel_rfl) (fun _ _ _ h=>h) hS0 (by rfl) ?hy10 ?rest10
   case hy10=>(intro w hSw;(try dsimp only at hSw);first|(go_simp;done)|(go_simp;with_reducible rfl))
   try simp only[Act.put,List.setIfInBounds_toArray,List.set_cons_zero,List.set_cons_succ]
   refine yV (i:=10) (oi:=_) (v:=?v11) (by kernel_rfl) rfl (by kernel_rfl) (by kernel_rfl) (by kernel_rfl) (fun _ _ _ h=>h) hS0 (by rfl) ?hy11 ?rest11
   case hy11=>(intro w hSw;(try dsimp only at hSw);first|(go_simp;done)|(go_simp;with_reducible rfl))
   try simp only[Act.put,List.setIfInBounds_toArray,List.set_cons_zero,List.set_cons_succ]
   refine yV (i:=11) (oi:=_) (v:=?v12) (by kernel_rfl) rfl (by kernel_rfl) (by kernel_rfl) (by kernel_rfl) (fun _ _ _ h=>h) hS0 (by rfl) ?hy12 ?rest12
   case hy12=>(intro w hSw;(try dsimp only at hSw);first|(go_simp;done)|(go_simp;with_reducible rfl))
   try simp only[Act.put,List.setIfInBounds_toArray,List.set_cons_zero,List.set_cons_succ]
   refine yV (i:=12) (oi:=_) (v:=?v13) (by kernel_rfl) rfl (by kernel_rfl) (by kernel_rfl) (by kernel_rfl) (fun _ _ _ h=>h) hS0 (by rfl) ?hy13 ?rest13
   case hy13=>(intro w hSw;(try dsimp only at hSw);first|(go_simp;done)|(go_simp;with_reducible rfl))
   try simp only[Act.put,List.setIfInBounds_toArray,List.set_cons_zero,List.set_cons_succ]
   refine yV (i:=13) (oi:=_) (v:=?v14) (by kernel_rfl) rfl (by kernel_rfl) (by kernel_rfl) (by kernel_rfl) (fun _ _ _ h=>h) hS0 (by rfl) ?hy14 ?rest14
   case hy14=>(intro w hSw;(try dsimp only at hSw);first|(go_simp;done)|(go_simp;with_reducible rfl))
   try simp only[Act.put,List.setIfInBounds_toArray,List.set_cons_zero,List.set_cons_succ]
   refine yV (i:=14) (oi:=_) (v:=?v15) (by kernel_rfl) rfl (by kernel_rfl) (by kernel_rfl) (by kernel_rfl) (fun _ _ _ h=>h) hS0 (by rfl) ?hy15 ?rest15
   case hy15=>(intro w hSw;(try dsimp only at hSw);first|(go_simp;done)|(go_simp;with_reducible rfl))
   try simp only[Act.put,List.setIfInBounds_toArray,List.set_cons_zero,List.set_cons_succ]
   refine yV (i:=15) (oi:=_) (v:=?v16) (by kernel_rfl) rfl (by kernel_rfl) (by kernel_rfl) (by kernel_rfl) (fun _ _ _ h=>h) hS0 (by rfl) ?hy16 ?rest16
   case hy16=>(intro w hSw;(try dsimp only at hSw);first|(go_simp;done)|(go_simp;with_reducible rfl))
   try simp only[Act.put,List.setIfInBounds_toArray,List.set_cons_zero,List.set_cons_succ]
   refine yV (i:=16) (oi:=_) (v:=?v17) (by kernel_rfl) rfl (by kernel_rfl) (by kernel_rfl) (by kernel_rfl) (fun _ _ _ h=>h) hS0 (by rfl) ?hy17 ?rest17
   case hy17=>(intro w hSw;(try dsimp only at hSw);first|(go_simp;done)|(go_simp;with_reducible rfl))
   try simp only[Act.put,List.setIfInBounds_toArray,List.set_cons_zero,List.set_cons_succ]
   refine yV (i:=17) (oi:=_) (v:=?v18) (by kernel_rfl) rfl (by kernel_rfl) (by kernel_rfl) (by kernel_rfl) (fun _ _ _ h=>h) hS0 (by rfl) ?hy18 ?rest18
   case hy18=>(intro w hSw;(try dsimp only at hSw);first|(go_simp;done)|(go_simp;with_reducible rfl))
   try simp only[Act.put,List.setIfInBounds_toArray,List.set_cons_zero,List.set_cons_succ]
   refine yV (i:=18) (oi:=_) (v:=?v19) (by kernel_rfl) rfl (by kernel_rfl) (by kernel_rfl) (by kernel_rfl) (fun _ _ _ h=>h) hS0 (by rfl) ?hy19 ?rest19
   case hy19=>(intro w hSw;(try dsimp only at hSw);first|(go_simp;done)|(go_simp;with_reducible rfl))
   try simp only[Act.put,List.setIfInBounds_toArray,List.set_cons_zero,List.set_cons_succ]
   refine yV (i:=19) (oi:=_) (v:=?v20) (by kernel_rfl) rfl (by kernel_rfl) (by kernel_rfl) (by kernel_rfl) (fun _ _ _ h=>h) hS0 (by rfl) ?hy20 ?rest20
   case hy20=>(intro w hSw;(try dsimp only at hSw);first|(go_simp;done)|(go_simp;with_reducible rfl))
   try simp only[Act.put,List.setIfInBounds_toArray,List.set_cons_zero,List.set_cons_succ]
   refine yV (i:=20) (oi:=_) (v:=?v21) (by kernel_rfl) rfl (by kernel_rfl) (by kernel_rfl) (by kernel_rfl) (fun _ _ _ h=>h) hS0 (by rfl) ?hy21 ?rest21
   case hy21=>(intro w hSw;(try dsimp only at hSw);first|(go_simp;done)|(go_simp;with_reducible rfl))
   try simp only[Act.put,List.setIfInBounds_toArray,List.set_cons_zero,List.set_cons_succ]
   refine yV (i:=21) (oi:=_) (v:=?v22) (by kernel_rfl) rfl (by kernel_rfl) (by kernel_rfl) (by kernel_rfl) (fun _ _ _ h=>h) hS0 (by rfl) ?hy22 ?rest22
   case hy22=>(intro w hSw;(try dsimp only at hSw);first|(go_simp;done)|(go_simp;with_reducible rfl))
   try simp only[Act.put,List.setIfInBounds_toArray,List.set_cons_zero,List.set_cons_succ]
   refine yV (i:=22) (oi:=_) (v:=?v23) (by kernel_rfl) rfl (by kernel_rfl) (by kernel_rfl) (by kernel_rfl) (fun _ _ _ h=>h) hS0 (by rfl) ?hy23 ?rest23
   case hy23=>(intro w hSw;(try dsimp only at hSw);first|(go_simp;done)|(go_simp;with_reducible rfl))
   try simp only[Act.put,List.setIfInBounds_toArray,List.set_cons_zero,List.set_cons_succ]
   refine wpAnyE_one (i:=23) (o:=_) (by kernel_rfl) rfl (fun K hK=>?_)
   go_simp
   go_wp2_with (go_at_call 198;refine(HAT.out _ HSd.out).mono ?_;rintro e w' ⟨rfl,rfl⟩)
   refine hK.out _ _ ?_ (fun hS1=>?_)
   ·exact HWd.out
   clear hK K hS0
   try simp only[Act.put,List.setIfInBounds_toArray,List.set_cons_zero,List.set_cons_succ]
   refine yV (i:=24) (oi:=_) (v:=?v24) (by kernel_rfl) rfl (by kernel_rfl) (by kernel_rfl) (by kernel_rfl) (fun _ _ _ h=>h) hS1 (by rfl) ?hy24 ?rest24
   case hy24=>(intro w hSw;(try dsimp only at hSw);first|(go_simp;done)|(go_simp;with_reducible rfl))
   try simp only[Act.put,List.setIfInBounds_toArray,List.set_cons_zero,List.set_cons_succ]
   refine yV (i:=25) (oi:=_) (v:=?v25) (by kernel_rfl) rfl (by kernel_rfl) (by kernel_rfl) (by kernel_rfl) (fun _ _ _ h=>h) hS1 (by rfl) ?hy25 ?rest25
   case hy25=>(intro w hSw;(try dsimp only at hSw);first|(go_simp;done)|(go_simp;with_reducible rfl))
   try simp only[Act.put,List.setIfInBounds_toArray,List.set_cons_zero,List.set_cons_succ]
   refine wpAnyE_one (i:=26) (o:=_) (by kernel_rfl) rfl (fun K hK=>?_)
   go_simp
   go_wp2_with (go_at_call 242;refine(c_Wrap _ _).mono ?_;rintro e w' ⟨rfl,rfl⟩)
   refine hK.out _ _ ?_ (fun hS2=>?_)
   ·exact HWd.out
   clear hK K hS1
   try simp only[Act.put,List.setIfInBounds_toArray,List.set_cons_zero,List.set_cons_succ]
   refine yV (i:=27) (oi:=_) (v:=?v26) (by kernel_rfl) rfl (by kernel_rfl) (by kernel_rfl) (by kernel_rfl) (fun _ _ _ h=>h) hS2 (by rfl) ?hy26 ?rest26
   case hy26=>(intro w hSw;(try dsimp only at hSw);first|(go_simp;done)|(go_simp;with_reducible rfl))
   try simp only[Act.put,List.setIfInBounds_toArray,List.set_cons_zero,List.set_cons_succ]
   refine wpAnyE_tail (o:=_) (by kernel_rfl) rfl (by kernel_rfl) ?_
   have ck:=HWd.out.2.1;have fr:=HOd.out.freeN j
   go_wp2
   have HO2:=hide (HOd.out.setN j (wrp (t0+y.zR * s0)));have HG2:=hide (HOd.out.grownN j (.int .i64 (wrp (t0+y.zR * s0))))
   have HK2:=hide (HKd.out.far (p:=⟨g,j,none⟩) (show w.heap.size≠g by omega) (.int .i64 (wrp (t0+y.zR * s0))));have HN2:=hide (HNd.out.far (p:=⟨g,j,none⟩) (show B1≠g by omega) (.int .i64 (wrp (t0+y.zR * s0))))
   go_roundw
   case rel=>exact⟨q+1,by omega,by go_num,by rw[HCU.out,HDA.out];exact HO2.out,HBd.out.grown HG2.out HBd.out.size (fun j hj=>by injection hj with hj;omega),HK2.out,HN2.out⟩
   case measure=>simp[intOf];omega
end Go.Proofs.YtoibekfhepnedaaGreat
end
section
namespace Go.Proofs.YtoibekfhepnedaaGreat
open Go.RowKit
theorem c_l26Entries (x:GMixer) (b o:Nat) (w:World) (hM:MixerOk x) (hg:x.good) (h:T.at w x.fs b o):Calls Tryz.prog 182 #[.pointer (some ⟨b,o,none⟩)] w fun e w'=> ∃ v,e= .returned v∧OwI 2 w' w.heap.size v (entriesF x)∧Below w.heap.size w w':=by
 have HAT:=hide h
 obtain⟨hlt0,cs,hr,hc⟩:=h
 obtain⟨v0,rfl,h0⟩:=GMixer.yN hr
 clear hr
 have R0:=hide h0;obtain⟨va0,vc0,rfl,vl0,vm0,vx0⟩:=T.yM h0
 have HX0:=hide vx0;clear vx0 h0
 have HL:=hide hlt0;have HCC:=hide hc;have HB0:=hide (Below.refl w.heap.size w);clear hlt0 hc
 have HM:=hide hM;have HGD:=hide hg;have hn8:x.zC.length≤8:=hM.few;clear hM hg
 have HUP:=hide (fun k=>entUp_upper (l:=x.zC) (fun y hy=>by obtain⟨i,hi⟩:=List.mem_iff_getElem?.1 hy;exact inB_true.1 (HM.out.each i y hi).1.latency) (fun i y hy s hs e=>by obtain⟨k,hk⟩:=List.mem_iff_getElem?.1 hs;have:=(mixer_to HM.out hy k s hk).1;omega) k)
 have p0:w.cell? ⟨b,o,none⟩=some (.slice va0 x.zC.length vc0):=(HB0.out.cell HL.out).trans (HCC.out 0 _ rfl)
 have lb:b<w.heap.size:=Nat.lt_of_lt_of_le HL.out HB0.out.size
 obtain⟨i0,hi,hz0,hz1,hz2⟩:=info_parts info_i64
 go_enter Tryz.func182,Tryz.ntmps182
 go_wp2_with (at_make;refine wpList_make_full _ rfl _ _ _ rfl w.heap.size 2 i0 _ 1 Tryz.underlying26 hi hz0 hz1 .i64 .i64 _ _ x.zC.length rfl rfl rfl rfl (by rw[hz2];omega) (by unfold maxLen;omega) (Nat.le_refl _) ?_;intro w1 hown1 hg1)
 have HO1:=hide (show OwI 2 w1 w.heap.size (.slice (some ⟨w.heap.size,0,none⟩) x.zC.length x.zC.length) (entUp x.zC 0) from OwI.made _ w1 (n:=x.zC.length) hg1.size (by unfold maxLen;omega) 0 hown1)
 have HB1:=hide (show Below w.heap.size w w1 from(Below.refl _ _).grown hg1 (Nat.le_refl _) (by simp))
 clear hown1 hg1 p0 lb hi hz0 hz1 hz2
 have p0:w1.cell? ⟨b,o,none⟩=some (.slice va0 x.zC.length vc0):=(HB1.out.cell HL.out).trans (HCC.out 0 _ rfl)
 have lb:b<w1.heap.size:=Nat.lt_of_lt_of_le HL.out HB1.out.size
 go_wp2
 go_loopw [4] (fun i wr=> ∃ k:Nat,k≤x.zC.length∧i= .int .i64 (k:Int)∧OwI 2 wr w.heap.size (.slice (some ⟨w.heap.size,0,none⟩) x.zC.length x.zC.length) (entUp x.zC k)∧Below w.heap.size w wr) (fun i _=>x.zC.length - (intOf i).toNat)
 case atStart=>exact⟨0,Nat.zero_le _,rfl,HO1.out,HB1.out⟩
 case round=>
  obtain⟨k,hk,rfl,ho,hbw⟩:=hrel
  have HO:=hide ho;have HB:=hide hbw;clear ho hbw p0 lb
  have p0:wr.cell? ⟨b,o,none⟩=some (.slice va0 x.zC.length vc0):=(HB.out.cell HL.out).trans (HCC.out 0 _ rfl)
  have lb:b<wr.heap.size:=Nat.lt_of_lt_of_le HL.out HB.out.size
  by_cases hlt:k<x.zC.length
  rotate_left
  ·
   obtain rfl:k=x.zC.length:=by omega
   go_wp2
   go_ret
   exact⟨_,rfl,HO.out,HB.out⟩
  have hgk:=List.getElem?_eq_getElem hlt
  obtain⟨b1,off,csy,hA,hb1,hcs,hcell⟩:=HX0.out k x.zC[k] hgk
  subst hA
  generalize x.zC[k]=y at *
  have HG:=hide hgk;clear hgk
  have HAy:=hide (T.at_elem (o:=off+k * 3) hb1 (show T.rds w y.fs csy by simpa only[GStrip.t,T.rd] using hcs) hcell (by omega));clear hcs hcell
  clear p0 lb
  have p0:wr.cell? ⟨b,o,none⟩=some (.slice (some ⟨b1,off,none⟩) x.zC.length vc0):=(HB.out.cell HL.out).trans (HCC.out 0 _ rfl)
  have lb:b<wr.heap.size:=Nat.lt_of_lt_of_le HL.out HB.out.size
  obtain⟨lty,csy',hry,hcy⟩:=HAy.out
  obtain⟨u2,rfl,hu2⟩:=GStrip.yN hry
  have Ru2:=hide hu2;obtain⟨ua2,uc2,rfl,ul2,um2,ux2⟩:=T.yM hu2;have HXu2:=hide ux2;clear ux2 hu2
  have HCy:=hide hcy;clear hry hcy
  have cy0:wr.cell? ⟨b1,off+k * 3,none⟩=some (.string y.zU):=(HB.out.cell lty).trans (HCy.out 0 _ rfl)
  have cy1:wr.cell? ⟨b1,off+k * 3+1,none⟩=some (.int .i64 y.zI):=(HB.out.cell lty).trans (HCy.out 1 _ rfl)
  have cy2:wr.cell? ⟨b1,off+k * 3+2,none⟩=some (.slice ua2 y.zJ.length uc2):=(HB.out.cell lty).trans (HCy.out 2 _ rfl)
  have HNM:=hide (HM.out.each k y HG.out).1
  have hlat:=inB_true.1 HNM.out.latency
  have lb1:b1<wr.heap.size:=Nat.lt_of_lt_of_le hb1 HB.out.size
  have HUk:=hide (show entUp x.zC (k+1)=entS k y.zI (entUp x.zC k) y.zJ y.zJ.length by show (match x.zC[k]? with|some x=>_|none=>_)=_;rw[HG.out])
  go_wp2
  go_loopw [6] (fun i wr=> ∃ q:Nat,q≤y.zJ.length∧i= .int .i64 (q:Int)∧OwI 2 wr w.heap.size (.slice (some ⟨w.heap.size,0,none⟩) x.zC.length x.zC.length) (entS k y.zI (entUp x.zC k) y.zJ q)∧Below w.heap.size w wr) (fun i _=>y.zJ.length - (intOf i).toNat)
  case atStart=>exact⟨0,Nat.zero_le _,rfl,HO.out,HB.out⟩
  case round=>
   obtain⟨q,hq,rfl,ho,hbw⟩:=hrel
   have HOi:=hide ho;have HBi:=hide hbw;clear ho hbw p0 lb cy0 cy1 cy2
   have p0:wr.cell? ⟨b,o,none⟩=some (.slice (some ⟨b1,off,none⟩) x.zC.length vc0):=(HBi.out.cell HL.out).trans (HCC.out 0 _ rfl)
   have lb:b<wr.heap.size:=Nat.lt_of_lt_of_le HL.out HBi.out.size
   have cy0:wr.cell? ⟨b1,off+k * 3,none⟩=some (.string y.zU):=(HBi.out.cell lty).trans (HCy.out 0 _ rfl)
   have cy1:wr.cell? ⟨b1,off+k * 3+1,none⟩=some (.int .i64 y.zI):=(HBi.out.cell lty).trans (HCy.out 1 _ rfl)
   have cy2:wr.cell? ⟨b1,off+k * 3+2,none⟩=some (.slice ua2 y.zJ.length uc2):=(HBi.out.cell lty).trans (HCy.out 2 _ rfl)
   have lb1':b1<wr.heap.size:=Nat.lt_of_lt_of_le hb1 HBi.out.size
   by_cases hlq:q<y.zJ.length
   rotate_left
   ·
    obtain rfl:q=y.zJ.length:=by omega
    go_wp2
    go_roundw
    case rel=>exact⟨k+1,by omega,by go_num,by rw[HUk.out];exact HOi.out,HBi.out⟩
    case measure=>simp[intOf];omega
   have hgq:=List.getElem?_eq_getElem hlq
   obtain⟨b2,off2,cs2,hA2,hb2,hcs2,hcell2⟩:=HXu2.out q y.zJ[q] hgq
   subst hA2
   generalize y.zJ[q]=z at *
   have HGZ:=hide hgq;clear hgq
   obtain rfl:=GSend.yN (show T.rds _ _ _ by simpa only[GSend.t,T.rd] using hcs2)
   have s0:=(HBi.out.cell hb2).trans (hcell2 0 (.int .i64 z.zV) rfl)
   have s1:=(HBi.out.cell hb2).trans (hcell2 1 (.int .i64 z.zR) rfl)
   rw[show off2+(q * 2+0)=off2+q * 2 by omega] at s0
   rw[show off2+(q * 2+1)=off2+q * 2+1 by omega] at s1
   clear hcs2 hcell2
   have lb2:b2<wr.heap.size:=Nat.lt_of_lt_of_le hb2 HBi.out.size
   obtain⟨t0,t1,_⟩:=mixer_to HM.out HG.out q z HGZ.out
   have n0:0≤z.zV:=by omega
   have HES:=hide (show entS k y.zI (entUp x.zC k) y.zJ (q+1)=(entS k y.zI (entUp x.zC k) y.zJ q).set z.zV.toNat (max ((entS k y.zI (entUp x.zC k) y.zJ q).getD z.zV.toNat 0) ((entS k y.zI (entUp x.zC k) y.zJ q).getD k 0+y.zI)) by show (match y.zJ[q]? with|some s=>_|none=>_)=_;rw[HGZ.out])
   have hUq:=((entS_upper (i:=k) (lat:=y.zI) (out:=entUp x.zC k) (l:=y.zJ) (B:=32 * ((k+1:Nat):Int)) (fun j=>(HUP.out k j).1) (by have:=(HUP.out k k).2;omega) hlat.1 ((HUP.out k).mono (by omega)) (fun s hs e=>by obtain⟨j,hj⟩:=List.mem_iff_getElem?.1 hs;have:=(mixer_to HM.out HG.out j s hj).1;omega) q).1) k
   have HUq:=hide hUq;clear hUq
   have hlen:(entS k y.zI (entUp x.zC k) y.zJ q).length=x.zC.length:=by rw[length_entS,length_entUp]
   generalize hR:entS k y.zI (entUp x.zC k) y.zJ q=R at *
   have hzt:z.zV.toNat<R.length:=by omega
   have hkt:k<R.length:=by omega
   have HgA:=hide (List.getElem?_eq_getElem hzt);have HgB:=hide (List.getElem?_eq_getElem hkt)
   have ca:=HOi.out.cellN HgA.out;have cb:=HOi.out.cellN HgB.out;have fr:=HOi.out.freeN z.zV.toNat
   have HDA:=hide (show R.getD z.zV.toNat 0=R[z.zV.toNat] by rw[List.getD_eq_getElem?_getD,HgA.out];rfl);have HDB:=hide (show R.getD k 0=R[k] by rw[List.getD_eq_getElem?_getD,HgB.out];rfl)
   generalize R[z.zV.toNat]=ta at *;generalize R[k]=tb at *
   have hbd:0≤tb∧tb≤1000:=by have h:=HUq.out;rw[HDB.out] at h;omega
   have hw:IntKind.i64.wrap (tb+y.zI)=tb+y.zI:=IntWalk.i64_in _ (by omega)
   have la:=HOi.out.lt w.heap.size rfl;have la2:=la.2
   go_wp2
   have HWd:=hide (show (wr.drew.cell? ⟨w.heap.size,z.zV.toNat,none⟩=some (.int .i64 ta))∧(wr.drew.cell? ⟨w.heap.size,k,none⟩=some (.int .i64 tb))∧(wr.drew.cell? ⟨b1,off+k * 3+1,none⟩=some (.int .i64 y.zI)) from⟨ca,cb,cy1⟩)
   have HOd:=hide (show OwI 2 wr.drew w.heap.size (.slice (some ⟨w.heap.size,0,none⟩) x.zC.length x.zC.length) R from own_all HOi.out (Below.refl wr.heap.size wr).drew);have HBd:=hide HBi.out.drew;have frd:wr.drew.frozen? ⟨w.heap.size,z.zV.toNat,none⟩=false:=fr
   clear ca cb cy0 cy1 cy2 p0 lb fr s0 s1 la la2
   refine wp_region_E (fun w'=>(w'.cell? ⟨w.heap.size,z.zV.toNat,none⟩=some (.int .i64 ta))∧(w'.cell? ⟨w.heap.size,k,none⟩=some (.int .i64 tb))∧(w'.cell? ⟨b1,off+k * 3+1,none⟩=some (.int .i64 y.zI))) 17 (by kernel_rfl) ?_ (fun hS0=>?_)
   ·exact HWd.out
   generalize hwd:wr.drew=wd at *;clear hwd
   refine yV (i:=0) (oi:=_) (v:=?v1) (by kernel_rfl) rfl (by kernel_rfl) (by kernel_rfl) (by kernel_rfl) (fun _ _ _ h=>h) hS0 (by rfl) ?hy1 ?rest1
   case hy1=>(intro w hSw;(try dsimp only at hSw);first|(go_simp;done)|(go_simp;with_reducible rfl))
   try simp only[Act.put,List.setIfInBounds_toArray,List.set_cons_zero,List.set_cons_succ]
   refine yV (i:=1) (oi:=_) (v:=?v2) (by kernel_rfl) rfl (by kernel_rfl) (by kernel_rfl) (by kernel_rfl) (fun _ _ _ h=>h) hS0 (by rfl) ?hy2 ?rest2
   case hy2=>(intro w hSw;(try dsimp only at hSw);first|(go_simp;done)|(go_simp;with_reducible rfl))
   try simp only[Act.put,List.setIfInBounds_toArray,List.set_cons_zero,List.set_cons_succ]
   refine yV (i:=2) (oi:=_) (v:=?v3) (by kernel_rfl) rfl (by kernel_rfl) (by kernel_rfl) (by kernel_rfl) (fun _ _ _ h=>h) hS0 (by rfl) ?hy3 ?rest3
   case hy3=>(intro w hSw;(try dsimp only at hSw);first|(go_simp;done)|(go_simp;with_reducible rfl))
   try simp only[Act.put,List.setIfInBounds_toArray,List.set_cons_zero,List.set_cons_succ]
   refine yV (i:=3) (oi:=_) (v:=?v4) (by kernel_rfl) rfl (by kernel_rfl) (by kernel_rfl) (by kernel_rfl) (fun _ _ _ h=>h) hS0 (by rfl) ?hy4 ?rest4
   case hy4=>(intro w hSw;(try dsimp only at hSw);first|(go_simp;done)|(go_simp;with_reducible rfl))
   try simp only[Act.put,List.setIfInBounds_toArray,List.set_cons_zero,List.set_cons_succ]
   refine yV (i:=4) (oi:=_) (v:=?v5) (by kernel_rfl) rfl (by kernel_rfl) (by kernel_rfl) (by kernel_rfl) (fun _ _ _ h=>h) hS0 (by rfl) ?hy5 ?rest5
   case hy5=>(intro w hSw;(try dsimp only at hSw);first|(go_simp;done)|(go_simp;with_reducible rfl))
   try simp only[Act.put,List.setIfInBounds_toArray,List.set_cons_zero,List.set_cons_succ]
   refine yV (i:=5) (oi:=_) (v:=?v6) (by kernel_rfl) rfl (by kernel_rfl) (by kernel_rfl) (by kernel_rfl) (fun _ _ _ h=>h) hS0 (by rfl) ?hy6 ?rest6
   case hy6=>(intro w hSw;(try dsimp only at hSw);first|(go_simp;done)|(go_simp;with_reducible rfl))
   try simp only[Act.put,List.setIfInBounds_toArray,List.set_cons_zero,List.set_cons_succ]
   refine yV (i:=6) (oi:=_) (v:=?v7) (by kernel_rfl) rfl (by kernel_rfl) (by kernel_rfl) (by kernel_rfl) (fun _ _ _ h=>h) hS0 (by rfl) ?hy7 ?rest7
   case hy7=>(intro w hSw;(try dsimp only at hSw);first|(go_simp;done)|(go_simp;with_reducible rfl))
   try simp only[Act.put,List.setIfInBounds_toArray,List.set_cons_zero,List.set_cons_succ]
   refine yV (i:=7) (oi:=_) (v:=?v8) (by kernel_rfl) rfl (by kernel_rfl) (by kernel_rfl) (by kernel_rfl) (fun _ _ _ h=>h) hS0 (by rfl) ?hy8 ?rest8
   case hy8=>(intro w hSw;(try dsimp only at hSw);first|(go_simp;done)|(go_simp;with_reducible rfl))
   try simp only[Act.put,List.setIfInBounds_toArray,List.set_cons_zero,List.set_cons_succ]
   refine yV (i:=8) (oi:=_) (v:=?v9) (by kernel_rfl) rfl (by kernel_rfl) (by kernel_rfl) (by kernel_rfl) (fun _ _ _ h=>h) hS0 (by rfl) ?hy9 ?rest9
   case hy9=>(intro w hSw;(try dsimp only at hSw);first|(go_simp;done)|(go_simp;with_reducible rfl))
   try simp only[Act.put,List.setIfInBounds_toArray,List.set_cons_zero,List.set_cons_succ]
   refine yV (i:=9) (oi:=_) (v:=?v10) (by kernel_rfl) rfl (by kernel_rfl) (by kernel_rfl) (by kernel_rfl) (fun _ _ _ h=>h) hS0 (by rfl) ?hy10 ?rest10
   case hy10=>(intro w hSw;(try dsimp only at hSw);first|(go_simp;done)|(go_simp;with_reducible rfl))
   try simp only[Act.put,List.setIfInBounds_toArray,List.set_cons_zero,List.set_cons_succ]
   refine yV (i:=10) (oi:=_) (v:=?v11) (by kernel_rfl) rfl (by kernel_rfl) (by kernel_rfl) (by kernel_rfl) (fun _ _ _ h=>h) hS0 (by rfl) ?hy11 ?rest11
   case hy11=>(intro w hSw;(try dsimp only at hSw);first|(go_simp;done)|(go_simp;with_reducible rfl))
   try simp only[Act.put,List.setIfInBounds_toArray,List.set_cons_zero,List.set_cons_succ]
   refine yV (i:=11) (oi:=_) (v:=?v12) (by kernel_rfl) rfl (by kernel_rfl) (by kernel_rfl) (by kernel_rfl) (fun _ _ _ h=>h) hS0 (by rfl) ?hy12 ?rest12
   case hy12=>(intro w hSw;(try dsimp only at hSw);first|(go_simp;done)|(go_simp;with_reducible rfl))
   try simp only[Act.put,List.setIfInBounds_toArray,List.set_cons_zero,List.set_cons_succ]
   refine yV (i:=12) (oi:=_) (v:=?v13) (by kernel_rfl) rfl (by kernel_rfl) (by kernel_rfl) (by kernel_rfl) (fun _ _ _ h=>h) hS0 (by rfl) ?hy13 ?rest13
   case hy13=>(intro w hSw;(try dsimp only at hSw);first|(go_simp;done)|(go_simp;with_reducible rfl))
   try simp only[Act.put,List.setIfInBounds_toArray,List.set_cons_zero,List.set_cons_succ]
   refine yV (i:=13) (oi:=_) (v:=?v14) (by kernel_rfl) rfl (by kernel_rfl) (by kernel_rfl) (by kernel_rfl) (fun _ _ _ h=>h) hS0 (by rfl) ?hy14 ?rest14
   case hy14=>(intro w hSw;(try dsimp only at hSw);first|(go_simp;done)|(go_simp;with_reducible rfl))
   try simp only[Act.put,List.setIfInBounds_toArray,List.set_cons_zero,List.set_cons_succ]
   refine yV (i:=14) (oi:=_) (v:=?v15) (by kernel_rfl) rfl (by kernel_rfl) (by kernel_rfl) (by kernel_rfl) (fun _ _ _ h=>h) hS0 (by rfl) ?hy15 ?rest15
   case hy15=>(intro w hSw;(try dsimp only at hSw);first|(go_simp;done)|(go_simp;with_reducible rfl))
   try simp only[Act.put,List.setIfInBounds_toArray,List.set_cons_zero,List.set_cons_succ]
   refine wpAnyE_one (i:=15) (o:=_) (by kernel_rfl) rfl (fun K hK=>?_)
   go_simp
   go_wp2_with (go_at_call 213;refine(c_qMax _ _ _).mono ?_;rintro e w' ⟨rfl,rfl⟩)
   refine hK.out _ _ ?_ (fun hS1=>?_)
   ·exact HWd.out
   clear hK K hS0
   try simp only[Act.put,List.setIfInBounds_toArray,List.set_cons_zero,List.set_cons_succ]
   refine yV (i:=16) (oi:=_) (v:=?v16) (by kernel_rfl) rfl (by kernel_rfl) (by kernel_rfl) (by kernel_rfl) (fun _ _ _ h=>h) hS1 (by rfl) ?hy16 ?rest16
   case hy16=>(intro w hSw;(try dsimp only at hSw);first|(go_simp;done)|(go_simp;with_reducible rfl))
   try simp only[Act.put,List.setIfInBounds_toArray,List.set_cons_zero,List.set_cons_succ]
   refine wpAnyE_tail (o:=_) (by kernel_rfl) rfl (by kernel_rfl) ?_
   have ck:=HWd.out.1
   go_wp2
   have HO2:=hide (HOd.out.setN z.zV.toNat (max ta (tb+y.zI)));have HG2:=hide (HOd.out.grownN z.zV.toNat (.int .i64 (max ta (tb+y.zI))))
   go_roundw
   case rel=>exact⟨q+1,by omega,by go_num,by rw[HES.out,HDA.out,HDB.out];exact HO2.out,HBd.out.grown HG2.out HBd.out.size (fun j hj=>by injection hj with hj;omega)⟩
   case measure=>simp[intOf];omega
end Go.Proofs.YtoibekfhepnedaaGreat
end
