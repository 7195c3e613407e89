/- Contract: entry times of a mixer, by the program. -/
import Derived.Test.YtoibekfhepnedaaGreatQBhExactSoundCache
import Derived.Test.YtoibekfhepnedaaGreatQAjExactSoundCache
set_option linter.unusedVariables false
set_option linter.unusedSimpArgs false
set_option maxHeartbeats 8000000
set_option maxRecDepth 100000
namespace Go.Proofs.YtoibekfhepnedaaGreat
open Go.RowKit
theorem rd_elems2 {w:World} {E:TypeId} {sz n c:Nat} {α:Type} {tr:α→T} {xs:List α} {A:Option Addr} (h:T.rd w (.sl E sz (xs.map tr)) [.slice A n c]):
  ∀ k x,xs[k]?=some x→ ∃ b off cs,A=some ⟨b,off,none⟩∧b<w.heap.size∧T.rd w (tr x) cs∧ ∀ j u,cs[j]?=some u→w.cell? ⟨b,off+(k * sz+j),none⟩=some u:=by
 obtain⟨A',c',e,_,_,h2⟩:=T.yM h
 injection e with e1 e2 e3
 subst e1
 exact h2
theorem c_entries (x:GMixer) (cs:List Value) (w:World) (hM:MixerOk x) (hg:x.good) (h:T.rds w x.fs cs):Calls Tryz.prog 191 #[.agg cs.toArray] w fun e w'=> ∃ v,e= .returned v∧OwI 2 w' w.heap.size v (entriesF x)∧Below w.heap.size w w':=by
 obtain⟨v0,rfl,h0⟩:=GMixer.yN h
 clear h
 have R0:=hide h0;obtain⟨va0,vc0,rfl,vl0,vm0,vx0⟩:=T.yM h0
 have HX0:=hide vx0;clear vx0 h0
 have HB0:=hide (show Below w.heap.size w (w.alloc (.cells #[(.slice va0 x.zC.length vc0)] 30)) from(Below.refl _ _).alloc (Nat.le_refl _) _)
 have HK0:=hide (Bk.born w 30 #[(.slice va0 x.zC.length vc0)])
 have HM:=hide hM;have HGD:=hide hg;have hn8:x.zC.length≤8:=hM.few;clear hM hg
 have HUP:=hide (fun k=>entUp_upper (l:=x.zC) (fun y hy=>by obtain⟨i,hi⟩:=List.mem_iff_getElem?.1 hy;exact inB_true.1 (HM.out.each i y hi).1.latency) (fun i y hy s hs e=>by obtain⟨k,hk⟩:=List.mem_iff_getElem?.1 hs;have:=(mixer_to HM.out hy k s hk).1;omega) k)
 go_enter Tryz.func191,Tryz.ntmps191
 go_wp2_with (go_at_call 102;refine(c_sizeStrip _ _ _ _ (by omega)).mono ?_;rintro e w' ⟨rfl,rfl⟩)
 refine(c_zerosE x.zC.length _ (by omega)).mono ?_;rintro e w1 ⟨rfl,ho,hd⟩
 have HOz:=hide ho;clear ho
 have hb:Below (w.alloc (.cells #[(.slice va0 x.zC.length vc0)] 30)).heap.size (w.alloc (.cells #[(.slice va0 x.zC.length vc0)] 30)) w1:=by first|exact hd|exact hd.to_below _|exact hd ▸ Below.refl _ _
 have HK1:=hide (HK0.out.below hb HK0.out.lt);have HB1:=hide (yI HB0.out HB0.out.size hb);clear hb hd;have ka:=HK1.out.cell;have la:=HK1.out.lt
 have hgz:w.heap.size<(w.alloc (.cells #[(.slice va0 x.zC.length vc0)] 30)).heap.size:=by simp
 generalize (w.alloc (.cells #[(.slice va0 x.zC.length vc0)] 30)).heap.size=g at *
 have HO1:=hide (show OwI 2 w1 g (.slice (some ⟨g,0,none⟩) x.zC.length x.zC.length) (entUp x.zC 0) from HOz.out)
 have hg1:g<w1.heap.size:=(HOz.out.lt g rfl).2
 clear HOz
 go_wp2
 go_loopw [15] (fun i wr=> ∃ k:Nat,k≤x.zC.length∧i= .int .i64 (k:Int)∧OwI 2 wr g (.slice (some ⟨g,0,none⟩) x.zC.length x.zC.length) (entUp x.zC k)∧Below w.heap.size w wr∧Bk wr w.heap.size 30 #[(.slice va0 x.zC.length vc0)]∧g<wr.heap.size) (fun i _=>x.zC.length - (intOf i).toNat)
 case atStart=>exact⟨0,Nat.zero_le _,rfl,HO1.out,HB1.out,HK1.out,hg1⟩
 case round=>
  obtain⟨k,hk,rfl,ho,hbw,hbk,hgw⟩:=hrel
  have HO:=hide ho;have HB:=hide hbw;have HK:=hide hbk;clear ho hbw hbk ka la
  have ka:=HK.out.cell;have la:=HK.out.lt
  by_cases hlt:k<x.zC.length
  rotate_left
  ·
   obtain rfl:k=x.zC.length:=by omega
   go_wp2
   go_ret
   exact⟨_,rfl,own_more HO.out (by omega),HB.out⟩
  have hgk:=List.getElem?_eq_getElem hlt
  obtain⟨b1,off,cs1,hA,hb1,hcs,hcell⟩:=HX0.out k x.zC[k] hgk
  subst hA
  generalize x.zC[k]=y at *
  have HG:=hide hgk;clear hgk
  obtain⟨u2,rfl,hRY2⟩:=GStrip.yN (show T.rds _ _ _ by simpa only[GStrip.t,T.rd] using hcs)
  have d0:=(HB.out.cell hb1).trans (hcell 0 (.string y.zU) rfl)
  have d1:=(HB.out.cell hb1).trans (hcell 1 (.int .i64 y.zI) rfl)
  have d2:=(HB.out.cell hb1).trans (hcell 2 (u2) rfl)
  rw[show off+(k * 3+0)=off+k * 3 by omega] at d0
  rw[show off+(k * 3+1)=off+k * 3+1 by omega] at d1
  rw[show off+(k * 3+2)=off+k * 3+2 by omega] at d2
  have RY2:=hide (T.yE hRY2 HB.out);clear hRY2
  clear hcs hcell
  obtain⟨ua2,uc2,rfl,ul2,um2,ux2⟩:=T.yM RY2.out;clear ux2
  have hq1:b1<wr.heap.size:=Nat.lt_of_lt_of_le hb1 HB.out.size
  obtain⟨b9,o9,cs9,hA9,hb9,hcs9,hcell9⟩:=HX0.out k y HG.out
  obtain⟨rfl,rfl⟩:b1=b9∧off=o9:=by injection hA9 with e;injection e with e1 e2;exact⟨e1,e2⟩
  obtain⟨v9,rfl,hv9⟩:=GStrip.yN (show T.rds _ _ _ by simpa only[GStrip.t,T.rd] using hcs9)
  have e9:=(HB.out.cell hb9).trans (hcell9 2 v9 rfl)
  rw[show off+(k * 3+2)=off+k * 3+2 by omega] at e9
  obtain rfl:v9= .slice ua2 y.zJ.length uc2:=Option.some.inj (e9.symm.trans d2)
  have UX2:=hide (rd_elems2 hv9);clear hv9 e9 hcell9 hcs9 hA9
  have HNM:=hide (HM.out.each k y HG.out).1
  have hlat:=inB_true.1 HNM.out.latency
  have HUk:=hide (show entUp x.zC (k+1)=entS k y.zI (entUp x.zC k) y.zJ y.zJ.length by show (match x.zC[k]? with|some x=>_|none=>_)=_;rw[HG.out])
  have HRX:=hide (show Below wr.heap.size wr (wr.alloc (.cells #[.string y.zU,.int .i64 y.zI,(.slice ua2 y.zJ.length uc2)] 101)) from(Below.refl _ _).alloc (Nat.le_refl _) _)
  have HOX:=hide (show OwI 2 (wr.alloc (.cells #[.string y.zU,.int .i64 y.zI,(.slice ua2 y.zJ.length uc2)] 101)) g (.slice (some ⟨g,0,none⟩) x.zC.length x.zC.length) (entS k y.zI (entUp x.zC k) y.zJ 0) from own_all HO.out HRX.out);have HBX:=hide (yI HB.out HB.out.size HRX.out);have HKX:=hide (HK.out.alloc (.cells #[.string y.zU,.int .i64 y.zI,(.slice ua2 y.zJ.length uc2)] 101));have HNX:=hide (Bk.born wr 101 #[.string y.zU,.int .i64 y.zI,(.slice ua2 y.zJ.length uc2)])
  have hgB:g<wr.heap.size:=hgw;have hBX:wr.heap.size<(wr.alloc (.cells #[.string y.zU,.int .i64 y.zI,(.slice ua2 y.zJ.length uc2)] 101)).heap.size:=HNX.out.lt
  clear ka la;have ka:=HKX.out.cell;have la:=HKX.out.lt;have kn:=HNX.out.cell;have ln:=HNX.out.lt
  go_wp2
  generalize hWX:(wr.alloc (.cells #[.string y.zU,.int .i64 y.zI,(.slice ua2 y.zJ.length uc2)] 101))=WX at *;clear hWX
  generalize hB1:wr.heap.size=B1 at *
  have HB1q:=hide hB1;clear hB1
  go_loopw [23] (fun i wr=> ∃ q:Nat,q≤y.zJ.length∧i= .int .i64 (q:Int)∧OwI 2 wr g (.slice (some ⟨g,0,none⟩) x.zC.length x.zC.length) (entS k y.zI (entUp x.zC k) y.zJ q)∧Below w.heap.size w wr∧Bk wr w.heap.size 30 #[(.slice (some ⟨b1,off,none⟩) x.zC.length vc0)]∧Bk wr B1 101 #[.string y.zU,.int .i64 y.zI,(.slice ua2 y.zJ.length uc2)]) (fun i _=>y.zJ.length - (intOf i).toNat)
  case atStart=>exact⟨0,Nat.zero_le _,rfl,HOX.out,HBX.out,HKX.out,HNX.out⟩
  case round=>
   obtain⟨q,hq,rfl,ho,hbw,hbk,hbn⟩:=hrel
   have HOi:=hide ho;have HBi:=hide hbw;have HKi:=hide hbk;have HNi:=hide hbn;clear ho hbw hbk hbn ka la kn ln
   have ka:=HKi.out.cell;have la:=HKi.out.lt;have kn:=HNi.out.cell;have ln:=HNi.out.lt
   by_cases hlq:q<y.zJ.length
   rotate_left
   ·
    obtain rfl:q=y.zJ.length:=by omega
    have hg9:g<wr.heap.size:=(HOi.out.lt g rfl).2
    go_wp2
    go_roundw
    case rel=>exact⟨k+1,by omega,by go_num,by rw[HUk.out];exact HOi.out,HBi.out,HKi.out,hg9⟩
    case measure=>simp[intOf];omega
   have hgq:=List.getElem?_eq_getElem hlq
   obtain⟨b2,off2,cs2,hA2,hb2,hcs2,hcell2⟩:=UX2.out q y.zJ[q] hgq
   subst hA2
   generalize y.zJ[q]=z at *
   have HGZ:=hide hgq;clear hgq
   obtain rfl:=GSend.yN (show T.rds _ _ _ by simpa only[GSend.t,T.rd] using hcs2)
   have s0:=(HBi.out.cell hb2).trans (hcell2 0 (.int .i64 z.zV) rfl)
   have s1:=(HBi.out.cell hb2).trans (hcell2 1 (.int .i64 z.zR) rfl)
   rw[show off2+(q * 2+0)=off2+q * 2 by omega] at s0
   rw[show off2+(q * 2+1)=off2+q * 2+1 by omega] at s1
   clear hcs2 hcell2
   have lb2:b2<wr.heap.size:=Nat.lt_of_lt_of_le hb2 HBi.out.size
   obtain⟨t0,t1,_⟩:=mixer_to HM.out HG.out q z HGZ.out
   have n0:0≤z.zV:=by omega
   have HES:=hide (show entS k y.zI (entUp x.zC k) y.zJ (q+1)=(entS k y.zI (entUp x.zC k) y.zJ q).set z.zV.toNat (max ((entS k y.zI (entUp x.zC k) y.zJ q).getD z.zV.toNat 0) ((entS k y.zI (entUp x.zC k) y.zJ q).getD k 0+y.zI)) by show (match y.zJ[q]? with|some s=>_|none=>_)=_;rw[HGZ.out])
   have hUq:=((entS_upper (i:=k) (lat:=y.zI) (out:=entUp x.zC k) (l:=y.zJ) (B:=32 * ((k+1:Nat):Int)) (fun j=>(HUP.out k j).1) (by have:=(HUP.out k k).2;omega) hlat.1 ((HUP.out k).mono (by omega)) (fun s hs e=>by obtain⟨j,hj⟩:=List.mem_iff_getElem?.1 hs;have:=(mixer_to HM.out HG.out j s hj).1;omega) q).1) k
   have HUq:=hide hUq;clear hUq
   have hlen:(entS k y.zI (entUp x.zC k) y.zJ q).length=x.zC.length:=by rw[length_entS,length_entUp]
   generalize hR:entS k y.zI (entUp x.zC k) y.zJ q=R at *
   have hzt:z.zV.toNat<R.length:=by omega
   have hkt:k<R.length:=by omega
   have HgA:=hide (List.getElem?_eq_getElem hzt);have HgB:=hide (List.getElem?_eq_getElem hkt)
   have HDA:=hide (show R.getD z.zV.toNat 0=R[z.zV.toNat] by rw[List.getD_eq_getElem?_getD,HgA.out];rfl);have HDB:=hide (show R.getD k 0=R[k] by rw[List.getD_eq_getElem?_getD,HgB.out];rfl)
   generalize R[z.zV.toNat]=ta at *;generalize R[k]=tb at *
   have hbd:0≤tb∧tb≤1000:=by have h:=HUq.out;rw[HDB.out] at h;omega
   have hw:IntKind.i64.wrap (tb+y.zI)=tb+y.zI:=IntWalk.i64_in _ (by omega)
   have HAZ:=hide (show Below wr.heap.size wr (wr.alloc (.cells #[.int .i64 z.zV,.int .i64 z.zR] 98)) from(Below.refl _ _).alloc (Nat.le_refl _) _)
   have HOz:=hide (show OwI 2 (wr.alloc (.cells #[.int .i64 z.zV,.int .i64 z.zR] 98)) g (.slice (some ⟨g,0,none⟩) x.zC.length x.zC.length) R from own_all HOi.out HAZ.out);have HBz:=hide (yI HBi.out HBi.out.size HAZ.out);have HKz:=hide (HKi.out.alloc (.cells #[.int .i64 z.zV,.int .i64 z.zR] 98));have HNz:=hide (HNi.out.alloc (.cells #[.int .i64 z.zV,.int .i64 z.zR] 98));have HZz:=hide (Bk.born wr 98 #[.int .i64 z.zV,.int .i64 z.zR])
   have hg8:g<wr.heap.size:=(HOi.out.lt g rfl).2
   clear ka la kn ln;have ka:=HKz.out.cell;have la:=HKz.out.lt;have kn:=HNz.out.cell;have ln:=HNz.out.lt;have kz:=HZz.out.cell;have lz:=HZz.out.lt
   go_wp2
   generalize hWZ:(wr.alloc (.cells #[.int .i64 z.zV,.int .i64 z.zR] 98))=WZ at *;clear hWZ
   generalize hB2:wr.heap.size=B2 at *;clear hB2 ka la kn ln kz lz s0 s1
   have HCA:=hide (HOz.out.cellN HgA.out);have HCB:=hide (HOz.out.cellN HgB.out);have HFR:=hide (HOz.out.freeN z.zV.toNat)
   have HWd:=hide (show (∀ i,WZ.drew.cell? ⟨B2,i,none⟩= #[.int .i64 z.zV,.int .i64 z.zR][i]?)∧(∀ i,WZ.drew.cell? ⟨B1,i,none⟩= #[.string y.zU,.int .i64 y.zI,(.slice (some ⟨b2,off2,none⟩) y.zJ.length uc2)][i]?)∧WZ.drew.cell? ⟨g,z.zV.toNat,none⟩=some (.int .i64 ta)∧WZ.drew.cell? ⟨g,k,none⟩=some (.int .i64 tb) from⟨HZz.out.cell,HNz.out.cell,HCA.out,HCB.out⟩)
   have HOd:=hide (show OwI 2 WZ.drew g (.slice (some ⟨g,0,none⟩) x.zC.length x.zC.length) R from own_all HOz.out (Below.refl WZ.heap.size WZ).drew);have HBd:=hide HBz.out.drew;have HKd:=hide (Bk.drew HKz.out);have HNd:=hide (Bk.drew HNz.out)
   have hmx:ta<tb+y.zI∨ ¬ ta<tb+y.zI:=by omega
   rcases hmx with hmx|hmx
   ·
    have HMX:=hide (show max ta (tb+y.zI)=tb+y.zI by omega)
    refine wp_region_E (fun w'=>(∀ i,w'.cell? ⟨B2,i,none⟩= #[.int .i64 z.zV,.int .i64 z.zR][i]?)∧(∀ i,w'.cell? ⟨B1,i,none⟩= #[.string y.zU,.int .i64 y.zI,(.slice (some ⟨b2,off2,none⟩) y.zJ.length uc2)][i]?)∧w'.cell? ⟨g,z.zV.toNat,none⟩=some (.int .i64 ta)∧w'.cell? ⟨g,k,none⟩=some (.int .i64 tb)) 17 (by kernel_rfl) ?_ (fun hS0=>?_)
    ·exact HWd.out
    generalize hwd:WZ.drew=wd at *;clear hwd
    refine yV (i:=0) (oi:=_) (v:=?v1) (by kernel_rfl) rfl (by kernel_rfl) (by kernel_rfl) (by kernel_rfl) (fun _ _ _ h=>h) hS0 (by rfl) ?hy1 ?rest1
    case hy1=>(intro w hSw;(try dsimp only at hSw);first|(go_simp;done)|(go_simp;with_reducible rfl))
    try simp only[Act.put,List.setIfInBounds_toArray,List.set_cons_zero,List.set_cons_succ]
    refine yV (i:=1) (oi:=_) (v:=?v2) (by kernel_rfl) rfl (by kernel_rfl) (by kernel_rfl) (by kernel_rfl) (fun _ _ _ h=>h) hS0 (by rfl) ?hy2 ?rest2
    case hy2=>(intro w hSw;(try dsimp only at hSw);first|(go_simp;done)|(go_simp;with_reducible rfl))
    try simp only[Act.put,List.setIfInBounds_toArray,List.set_cons_zero,List.set_cons_succ]
    refine yV (i:=2) (oi:=_) (v:=?v3) (by kernel_rfl) rfl (by kernel_rfl) (by kernel_rfl) (by kernel_rfl) (fun _ _ _ h=>h) hS0 (by rfl) ?hy3 ?rest3
    case hy3=>(intro w hSw;(try dsimp only at hSw);first|(go_simp;done)|(go_simp;with_reducible rfl))
    try simp only[Act.put,List.setIfInBounds_toArray,List.set_cons_zero,List.set_cons_succ]
    refine yV (i:=3) (oi:=_) (v:=?v4) (by kernel_rfl) rfl (by kernel_rfl) (by kernel_rfl) (by kernel_rfl) (fun _ _ _ h=>h) hS0 (by rfl) ?hy4 ?rest4
    case hy4=>(intro w hSw;(try dsimp only at hSw);first|(go_simp;done)|(go_simp;with_reducible rfl))
    try simp only[Act.put,List.setIfInBounds_toArray,List.set_cons_zero,List.set_cons_succ]
    refine yV (i:=4) (oi:=_) (v:=?v5) (by kernel_rfl) rfl (by kernel_rfl) (by kernel_rfl) (by kernel_rfl) (fun _ _ _ h=>h) hS0 (by rfl) ?hy5 ?rest5
    case hy5=>(intro w hSw;(try dsimp only at hSw);first|(go_simp;done)|(go_simp;with_reducible rfl))
    try simp only[Act.put,List.setIfInBounds_toArray,List.set_cons_zero,List.set_cons_succ]
    refine yV (i:=5) (oi:=_) (v:=?v6) (by kernel_rfl) rfl (by kernel_rfl) (by kernel_rfl) (by kernel_rfl) (fun _ _ _ h=>h) hS0 (by rfl) ?hy6 ?rest6
    case hy6=>(intro w hSw;(try dsimp only at hSw);first|(go_simp;done)|(go_simp;with_reducible rfl))
    try simp only[Act.put,List.setIfInBounds_toArray,List.set_cons_zero,List.set_cons_succ]
    refine yV (i:=6) (oi:=_) (v:=?v7) (by kernel_rfl) rfl (by kernel_rfl) (by kernel_rfl) (by kernel_rfl) (fun _ _ _ h=>h) hS0 (by rfl) ?hy7 ?rest7
    case hy7=>(intro w hSw;(try dsimp only at hSw);first|(go_simp;done)|(go_simp;with_reducible rfl))
    try simp only[Act.put,List.setIfInBounds_toArray,List.set_cons_zero,List.set_cons_succ]
    refine yV (i:=7) (oi:=_) (v:=?v8) (by kernel_rfl) rfl (by kernel_rfl) (by kernel_rfl) (by kernel_rfl) (fun _ _ _ h=>h) hS0 (by rfl) ?hy8 ?rest8
    case hy8=>(intro w hSw;(try dsimp only at hSw);first|(go_simp;done)|(go_simp;with_reducible rfl))
    try simp only[Act.put,List.setIfInBounds_toArray,List.set_cons_zero,List.set_cons_succ]
    refine yV (i:=8) (oi:=_) (v:=?v9) (by kernel_rfl) rfl (by kernel_rfl) (by kernel_rfl) (by kernel_rfl) (fun _ _ _ h=>h) hS0 (by rfl) ?hy9 ?rest9
    case hy9=>(intro w hSw;(try dsimp only at hSw);first|(go_simp;done)|(go_simp;with_reducible rfl))
    try simp only[Act.put,List.setIfInBounds_toArray,List.set_cons_zero,List.set_cons_succ]
    refine yV (i:=9) (oi:=_) (v:=?v10) (by kernel_rfl) rfl (by kernel_rfl) (by kernel_rfl) (by kernel_rfl) (fun _ _ _ h=>h) hS0 (by rfl) ?hy10 ?rest10
    case hy10=>(intro w hSw;(try dsimp only at hSw);first|(go_simp;done)|(go_simp;with_reducible rfl))
    try simp only[Act.put,List.setIfInBounds_toArray,List.set_cons_zero,List.set_cons_succ]
    refine yV (i:=10) (oi:=_) (v:=?v11) (by kernel_rfl) rfl (by kernel_rfl) (by kernel_rfl) (by kernel_rfl) (fun _ _ _ h=>h) hS0 (by rfl) ?hy11 ?rest11
    case hy11=>(intro w hSw;(try dsimp only at hSw);first|(go_simp;done)|(go_simp;with_reducible rfl))
    try simp only[Act.put,List.setIfInBounds_toArray,List.set_cons_zero,List.set_cons_succ]
    refine yV (i:=11) (oi:=_) (v:=?v12) (by kernel_rfl) rfl (by kernel_rfl) (by kernel_rfl) (by kernel_rfl) (fun _ _ _ h=>h) hS0 (by rfl) ?hy12 ?rest12
    case hy12=>(intro w hSw;(try dsimp only at hSw);first|(go_simp;done)|(go_simp;with_reducible rfl))
    try simp only[Act.put,List.setIfInBounds_toArray,List.set_cons_zero,List.set_cons_succ]
    refine yV (i:=12) (oi:=_) (v:=?v13) (by kernel_rfl) rfl (by kernel_rfl) (by kernel_rfl) (by kernel_rfl) (fun _ _ _ h=>h) hS0 (by rfl) ?hy13 ?rest13
    case hy13=>(intro w hSw;(try dsimp only at hSw);first|(go_simp;done)|(go_simp;with_reducible rfl))
    try simp only[Act.put,List.setIfInBounds_toArray,List.set_cons_zero,List.set_cons_succ]
    refine yV (i:=13) (oi:=_) (v:=?v14) (by kernel_rfl) rfl (by kernel_rfl) (by kernel_rfl) (by kernel_rfl) (fun _ _ _ h=>h) hS0 (by rfl) ?hy14 ?rest14
    case hy14=>(intro w hSw;(try dsimp only at hSw);first|(go_simp;done)|(go_simp;with_reducible rfl))
    try simp only[Act.put,List.setIfInBounds_toArray,List.set_cons_zero,List.set_cons_succ]
    refine yV (i:=14) (oi:=_) (v:=?v15) (by kernel_rfl) rfl (by kernel_rfl) (by kernel_rfl) (by kernel_rfl) (fun _ _ _ h=>h) hS0 (by rfl) ?hy15 ?rest15
    case hy15=>(intro w hSw;(try dsimp only at hSw);first|(go_simp;done)|(go_simp;with_reducible rfl))
    try simp only[Act.put,List.setIfInBounds_toArray,List.set_cons_zero,List.set_cons_succ]
    refine yV (i:=15) (oi:=_) (v:=?v16) (by kernel_rfl) rfl (by kernel_rfl) (by kernel_rfl) (by kernel_rfl) (fun _ _ _ h=>h) hS0 (by rfl) ?hy16 ?rest16
    case hy16=>(intro w hSw;(try dsimp only at hSw);first|(go_simp;done)|(go_simp;with_reducible rfl))
    try simp only[Act.put,List.setIfInBounds_toArray,List.set_cons_zero,List.set_cons_succ]
    refine yV (i:=16) (oi:=_) (v:=?v17) (by kernel_rfl) rfl (by kernel_rfl) (by kernel_rfl) (by kernel_rfl) (fun _ _ _ h=>h) hS0 (by rfl) ?hy17 ?rest17
    case hy17=>(intro w hSw;(try dsimp only at hSw);first|(go_simp;done)|(go_simp;with_reducible rfl))
    try simp only[Act.put,List.setIfInBounds_toArray,List.set_cons_zero,List.set_cons_succ]
    refine wpAnyE_tail (o:=_) (by kernel_rfl) rfl (by kernel_rfl) ?_
    have ck:=HWd.out.2.2.1;have fr:=HOd.out.freeN z.zV.toNat
    go_wp2
    have HO2:=hide (HOd.out.setN z.zV.toNat (tb+y.zI));have HG2:=hide (HOd.out.grownN z.zV.toNat (.int .i64 (tb+y.zI)))
    have HK2:=hide (HKd.out.far (p:=⟨g,z.zV.toNat,none⟩) (show w.heap.size≠g by omega) (.int .i64 (tb+y.zI)));have HN2:=hide (HNd.out.far (p:=⟨g,z.zV.toNat,none⟩) (show B1≠g by omega) (.int .i64 (tb+y.zI)))
    go_roundw
    case rel=>exact⟨q+1,by omega,by go_num,by rw[HES.out,HDA.out,HDB.out,HMX.out];exact HO2.out,HBd.out.grown HG2.out HBd.out.size (fun j hj=>by injection hj with hj;omega),HK2.out,HN2.out⟩
    case measure=>simp[intOf];omega
   ·
    have HMX:=hide (show max ta (tb+y.zI)=ta by omega)
    refine wp_region_E (fun w'=>(∀ i,w'.cell? ⟨B2,i,none⟩= #[.int .i64 z.zV,.int .i64 z.zR][i]?)∧(∀ i,w'.cell? ⟨B1,i,none⟩= #[.string y.zU,.int .i64 y.zI,(.slice (some ⟨b2,off2,none⟩) y.zJ.length uc2)][i]?)∧w'.cell? ⟨g,z.zV.toNat,none⟩=some (.int .i64 ta)∧w'.cell? ⟨g,k,none⟩=some (.int .i64 tb)) 17 (by kernel_rfl) ?_ (fun hS0=>?_)
    ·exact HWd.out
    generalize hwd:WZ.drew=wd at *;clear hwd
    refine yV (i:=0) (oi:=_) (v:=?v18) (by kernel_rfl) rfl (by kernel_rfl) (by kernel_rfl) (by kernel_rfl) (fun _ _ _ h=>h) hS0 (by rfl) ?hy18 ?rest18
    case hy18=>(intro w hSw;(try dsimp only at hSw);first|(go_simp;done)|(go_simp;with_reducible rfl))
    try simp only[Act.put,List.setIfInBounds_toArray,List.set_cons_zero,List.set_cons_succ]
    refine yV (i:=1) (oi:=_) (v:=?v19) (by kernel_rfl) rfl (by kernel_rfl) (by kernel_rfl) (by kernel_rfl) (fun _ _ _ h=>h) hS0 (by rfl) ?hy19 ?rest19
    case hy19=>(intro w hSw;(try dsimp only at hSw);first|(go_simp;done)|(go_simp;with_reducible rfl))
    try simp only[Act.put,List.setIfInBounds_toArray,List.set_cons_zero,List.set_cons_succ]
    refine yV (i:=2) (oi:=_) (v:=?v20) (by kernel_rfl) rfl (by kernel_rfl) (by kernel_rfl) (by kernel_rfl) (fun _ _ _ h=>h) hS0 (by rfl) ?hy20 ?rest20
    case hy20=>(intro w hSw;(try dsimp only at hSw);first|(go_simp;done)|(go_simp;with_reducible rfl))
    try simp only[Act.put,List.setIfInBounds_toArray,List.set_cons_zero,List.set_cons_succ]
    refine yV (i:=3) (oi:=_) (v:=?v21) (by kernel_rfl) rfl (by kernel_rfl) (by kernel_rfl) (by kernel_rfl) (fun _ _ _ h=>h) hS0 (by rfl) ?hy21 ?rest21
    case hy21=>(intro w hSw;(try dsimp only at hSw);first|(go_simp;done)|(go_simp;with_reducible rfl))
    try simp only[Act.put,List.setIfInBounds_toArray,List.set_cons_zero,List.set_cons_succ]
    refine yV (i:=4) (oi:=_) (v:=?v22) (by kernel_rfl) rfl (by kernel_rfl) (by kernel_rfl) (by kernel_rfl) (fun _ _ _ h=>h) hS0 (by rfl) ?hy22 ?rest22
    case hy22=>(intro w hSw;(try dsimp only at hSw);first|(go_simp;done)|(go_simp;with_reducible rfl))
    try simp only[Act.put,List.setIfInBounds_toArray,List.set_cons_zero,List.set_cons_succ]
    refine yV (i:=5) (oi:=_) (v:=?v23) (by kernel_rfl) rfl (by kernel_rfl) (by kernel_rfl) (by kernel_rfl) (fun _ _ _ h=>h) hS0 (by rfl) ?hy23 ?rest23
    case hy23=>(intro w hSw;(try dsimp only at hSw);first|(go_simp;done)|(go_simp;with_reducible rfl))
    try simp only[Act.put,List.setIfInBounds_toArray,List.set_cons_zero,List.set_cons_succ]
    refine yV (i:=6) (oi:=_) (v:=?v24) (by kernel_rfl) rfl (by kernel_rfl) (by kernel_rfl) (by kernel_rfl) (fun _ _ _ h=>h) hS0 (by rfl) ?hy24 ?rest24
    case hy24=>(intro w hSw;(try dsimp only at hSw);first|(go_simp;done)|(go_simp;with_reducible rfl))
    try simp only[Act.put,List.setIfInBounds_toArray,List.set_cons_zero,List.set_cons_succ]
    refine yV (i:=7) (oi:=_) (v:=?v25) (by kernel_rfl) rfl (by kernel_rfl) (by kernel_rfl) (by kernel_rfl) (fun _ _ _ h=>h) hS0 (by rfl) ?hy25 ?rest25
    case hy25=>(intro w hSw;(try dsimp only at hSw);first|(go_simp;done)|(go_simp;with_reducible rfl))
    try simp only[Act.put,List.setIfInBounds_toArray,List.set_cons_zero,List.set_cons_succ]
    refine yV (i:=8) (oi:=_) (v:=?v26) (by kernel_rfl) rfl (by kernel_rfl) (by kernel_rfl) (by kernel_rfl) (fun _ _ _ h=>h) hS0 (by rfl) ?hy26 ?rest26
    case hy26=>(intro w hSw;(try dsimp only at hSw);first|(go_simp;done)|(go_simp;with_reducible rfl))
    try simp only[Act.put,List.setIfInBounds_toArray,List.set_cons_zero,List.set_cons_succ]
    refine yV (i:=9) (oi:=_) (v:=?v27) (by kernel_rfl) rfl (by kernel_rfl) (by kernel_rfl) (by kernel_rfl) (fun _ _ _ h=>h) hS0 (by rfl) ?hy27 ?rest27
    case hy27=>(intro w hSw;(try dsimp only at hSw);first|(go_simp;done)|(go_simp;with_reducible rfl))
    try simp only[Act.put,List.setIfInBounds_toArray,List.set_cons_zero,List.set_cons_succ]
    refine yV (i:=10) (oi:=_) (v:=?v28) (by kernel_rfl) rfl (by kernel_rfl) (by kernel_rfl) (by kernel_rfl) (fun _ _ _ h=>h) hS0 (by rfl) ?hy28 ?rest28
    case hy28=>(intro w hSw;(try dsimp only at hSw);first|(go_simp;done)|(go_simp;with_reducible rfl))
    try simp only[Act.put,List.setIfInBounds_toArray,List.set_cons_zero,List.set_cons_succ]
    refine yV (i:=11) (oi:=_) (v:=?v29) (by kernel_rfl) rfl (by kernel_rfl) (by kernel_rfl) (by kernel_rfl) (fun _ _ _ h=>h) hS0 (by rfl) ?hy29 ?rest29
    case hy29=>(intro w hSw;(try dsimp only at hSw);first|(go_simp;done)|(go_simp;with_reducible rfl))
    try simp only[Act.put,List.setIfInBounds_toArray,List.set_cons_zero,List.set_cons_succ]
    refine yV (i:=12) (oi:=_) (v:=?v30) (by kernel_rfl) rfl (by kernel_rfl) (by kernel_rfl) (by kernel_rfl) (fun _ _ _ h=>h) hS0 (by rfl) ?hy30 ?rest30
    case hy30=>(intro w hSw;(try dsimp only at hSw);first|(go_simp;done)|(go_simp;with_reducible rfl))
    try simp only[Act.put,List.setIfInBounds_toArray,List.set_cons_zero,List.set_cons_succ]
    refine yV (i:=13) (oi:=_) (v:=?v31) (by kernel_rfl) rfl (by kernel_rfl) (by kernel_rfl) (by kernel_rfl) (fun _ _ _ h=>h) hS0 (by rfl) ?hy31 ?rest31
    case hy31=>(intro w hSw;(try dsimp only at hSw);first|(go_simp;done)|(go_simp;with_reducible rfl))
    try simp only[Act.put,List.setIfInBounds_toArray,List.set_cons_zero,List.set_cons_succ]
    refine yV (i:=14) (oi:=_) (v:=?v32) (by kernel_rfl) rfl (by kernel_rfl) (by kernel_rfl) (by kernel_rfl) (fun _ _ _ h=>h) hS0 (by rfl) ?hy32 ?rest32
    case hy32=>(intro w hSw;(try dsimp only at hSw);first|(go_simp;done)|(go_simp;with_reducible rfl))
    try simp only[Act.put,List.setIfInBounds_toArray,List.set_cons_zero,List.set_cons_succ]
    refine yV (i:=15) (oi:=_) (v:=?v33) (by kernel_rfl) rfl (by kernel_rfl) (by kernel_rfl) (by kernel_rfl) (fun _ _ _ h=>h) hS0 (by rfl) ?hy33 ?rest33
    case hy33=>(intro w hSw;(try dsimp only at hSw);first|(go_simp;done)|(go_simp;with_reducible rfl))
    try simp only[Act.put,List.setIfInBounds_toArray,List.set_cons_zero,List.set_cons_succ]
    refine yV (i:=16) (oi:=_) (v:=?v34) (by kernel_rfl) rfl (by kernel_rfl) (by kernel_rfl) (by kernel_rfl) (fun _ _ _ h=>h) hS0 (by rfl) ?hy34 ?rest34
    case hy34=>(intro w hSw;(try dsimp only at hSw);first|(go_simp;done)|(go_simp;with_reducible rfl))
    try simp only[Act.put,List.setIfInBounds_toArray,List.set_cons_zero,List.set_cons_succ]
    refine wpAnyE_tail (o:=_) (by kernel_rfl) rfl (by kernel_rfl) ?_
    have ck:=HWd.out.2.2.1;have fr:=HOd.out.freeN z.zV.toNat
    go_wp2
    have HO2:=hide (HOd.out.setN z.zV.toNat ta);have HG2:=hide (HOd.out.grownN z.zV.toNat (.int .i64 ta))
    have HK2:=hide (HKd.out.far (p:=⟨g,z.zV.toNat,none⟩) (show w.heap.size≠g by omega) (.int .i64 ta));have HN2:=hide (HNd.out.far (p:=⟨g,z.zV.toNat,none⟩) (show B1≠g by omega) (.int .i64 ta))
    go_roundw
    case rel=>exact⟨q+1,by omega,by go_num,by rw[HES.out,HDA.out,HDB.out,HMX.out];exact HO2.out,HBd.out.grown HG2.out HBd.out.size (fun j hj=>by injection hj with hj;omega),HK2.out,HN2.out⟩
    case measure=>simp[intOf];omega
end Go.Proofs.YtoibekfhepnedaaGreat
