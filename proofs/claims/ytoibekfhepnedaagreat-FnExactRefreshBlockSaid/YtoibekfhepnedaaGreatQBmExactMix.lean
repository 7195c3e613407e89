/- Drawn regions: three operations of which each may come up; one that comes last. No program is named here. Blocks of a cache made up to date, in plain words. Contract: a cache refreshed, by the program. -/
import Derived.Test.YtoibekfhepnedaaGreatQApExactMix
import Derived.Test.YtoibekfhepnedaaGreatQAtExactMix
import Derived.Test.YtoibekfhepnedaaGreatQBeExactMix
import Derived.Test.YtoibekfhepnedaaGreatQBfExactMix
import Derived.Test.YtoibekfhepnedaaGreatQAmExactMix
import Derived.Test.YtoibekfhepnedaaGreatQAuExactMix
set_option linter.unusedVariables false
set_option linter.unusedSimpArgs false
set_option maxHeartbeats 8000000
set_option maxRecDepth 100000
namespace Go.Proofs.YtoibekfhepnedaaGreat
section
open Go.RowKit
theorem yVy {P:Program} {ops:Array Oper} {Q:Exit→Act→World→Prop} {md:Region.Mode} {S:World→Prop} {n:List Nat} {i j l:Nat} {o o2 o3:Oper} {fuel:Nat} {listed:Array Bool} {a:Act} {w:World} (hr:Region.ready md ops listed= [i,j,l]) (ho:ops[i]?=some o) (ho2:ops[j]?=some o2) (ho3:ops[l]?=some o3)
  (h: ∀ K':Act→World→Prop,Shut (∀ a w,S w→(S w→uM P md ops Q S n fuel (listed.setIfInBounds i true) a w)→K' a w)→if Region.wanted o (yielded ops a.tmps)=true then Oper.wp P o a w K' Q else K' (a.put o.dst undef) w)
  (h2: ∀ K':Act→World→Prop,Shut (∀ a w,S w→(S w→uM P md ops Q S n fuel (listed.setIfInBounds j true) a w)→K' a w)→if Region.wanted o2 (yielded ops a.tmps)=true then Oper.wp P o2 a w K' Q else K' (a.put o2.dst undef) w)
  (h3: ∀ K':Act→World→Prop,Shut (∀ a w,S w→(S w→uM P md ops Q S n fuel (listed.setIfInBounds l true) a w)→K' a w)→if Region.wanted o3 (yielded ops a.tmps)=true then Oper.wp P o3 a w K' Q else K' (a.put o3.dst undef) w):
  uM P md ops Q S n (fuel+1) listed a w:=
 ⟨fun h0=>(by rw[h0] at hr;cases hr),fun q hq=>by
  rw[hr,List.mem_cons,List.mem_cons,List.mem_singleton] at hq
  rcases hq with rfl|rfl|rfl
  ·exact wpOp_step ho (fun K' hK=>h K' (fun a w hS hW=>hK a w ⟨.inr hS,hW hS⟩))
  ·exact wpOp_step ho2 (fun K' hK=>h2 K' (fun a w hS hW=>hK a w ⟨.inr hS,hW hS⟩))
  ·exact wpOp_step ho3 (fun K' hK=>h3 K' (fun a w hS hW=>hK a w ⟨.inr hS,hW hS⟩))⟩
theorem vJ {P:Program} {ops:Array Oper} {Q:Exit→Act→World→Prop} {md:Region.Mode} {S:World→Prop} {n:List Nat} {i:Nat} {o:Oper} {fuel:Nat} {listed:Array Bool} {a:Act} {w:World} (hr:Region.ready md ops listed= [i]) (ho:ops[i]?=some o) (hr2:Region.ready md ops (listed.setIfInBounds i true)= [])
  (hi:i ∈ n) (h:wpList P ops Q [o] a w):uM P md ops Q S n (fuel+1) listed a w:=
 ⟨fun h0=>(by rw[hr] at h0;cases h0),fun k hk=>by
  rw[hr,List.mem_singleton] at hk;subst hk;have hw:wpOp P ops Q k (wpList P ops Q []) a w:=by unfold wpOp;simp only[ho];exact h
  exact wpOp_mono (fun a' w' h'=>⟨.inl hi,wpAnyN_end hr2 h'⟩) hw⟩
end
section
open Go.RowKit
def refM (m mix l:List Int) (k:Nat):List Int:=m.mapIdx fun i x=>if i<k∧(i:Int) / 16 ∈ l then mix.getD i 0 else x
theorem uD (m mix l:List Int) (k:Nat):(refM m mix l k).length=m.length:=by simp[refM]
theorem vNz {m mix l:List Int} {k i:Nat} {x:Int} (h:m[i]?=some x):(refM m mix l k)[i]?=some (if i<k∧(i:Int) / 16 ∈ l then mix.getD i 0 else x):=by
 unfold refM;rw[List.getElem?_mapIdx,h];rfl
theorem refM_zero (m mix l:List Int):refM m mix l 0=m:=by
 apply List.ext_getElem?
 intro i
 cases h:m[i]? with
 |none=>rw[List.getElem?_eq_none (by rw[uD];exact List.getElem?_eq_none_iff.1 h)]
 |some x=>rw[vNz h,if_neg zM]
theorem refM_no {m mix l:List Int} {k:Nat} (h: ¬ (k:Int) / 16 ∈ l):refM m mix l (k+1)=refM m mix l k:=by
 apply List.ext_getElem?
 intro i
 cases hi:m[i]? with
 |none=>rw[List.getElem?_eq_none (by rw[uD];exact List.getElem?_eq_none_iff.1 hi),List.getElem?_eq_none (by rw[uD];exact List.getElem?_eq_none_iff.1 hi)]
 |some x=>
  rw[vNz hi,vNz hi];by_cases e:i=k
  ·subst e;rw[if_neg (fun c=>h c.2),if_neg (fun c=>h c.2)]
  ·by_cases c:i<k∧(i:Int) / 16 ∈ l
   ·rw[if_pos c,if_pos ⟨by omega,c.2⟩]
   ·rw[if_neg c,if_neg (fun c2=>c ⟨by omega,c2.2⟩)]
theorem refM_yes {m mix l:List Int} {k:Nat} (h:(k:Int) / 16 ∈ l):refM m mix l (k+1)=(refM m mix l k).set k (mix.getD k 0):=by
 apply List.ext_getElem?
 intro i
 cases hi:m[i]? with
 |none=>rw[List.getElem?_eq_none (by rw[uD];exact List.getElem?_eq_none_iff.1 hi),List.getElem?_eq_none (by rw[List.length_set,uD];exact List.getElem?_eq_none_iff.1 hi)]
 |some x=>
  have hl:=(List.getElem?_eq_some_iff.1 hi).1;by_cases e:k=i
  ·subst e
   rw[vNz hi,if_pos ⟨by omega,h⟩,List.getElem?_set_self (by rw[uD];exact hl)]
  ·rw[List.getElem?_set_ne e,vNz hi,vNz hi]
   by_cases c:i<k∧(i:Int) / 16 ∈ l
   ·rw[if_pos c,if_pos ⟨by omega,c.2⟩]
   ·rw[if_neg c,if_neg (fun c2=>c ⟨by omega,c2.2⟩)]
def refD (d l:List Int) (k:Nat):List Int:=(d.take k).filter fun y=> !decide (y ∈ l)
theorem refD_yes {d l:List Int} {k:Nat} {y:Int} (h:d[k]?=some y) (hy: ¬ y ∈ l):refD d l (k+1)=refD d l k++ [y]:=by
 unfold refD;rw[List.take_add_one,h,List.filter_append];simp[hy]
theorem refD_no {d l:List Int} {k:Nat} {y:Int} (h:d[k]?=some y) (hy:y ∈ l):refD d l (k+1)=refD d l k:=by
 unfold refD;rw[List.take_add_one,h,List.filter_append];simp[hy]
theorem refD_len (d l:List Int) (k:Nat):(refD d l k).length≤k:=by
 unfold refD;have h1:=List.length_filter_le (fun y=> !decide (y ∈ l)) (d.take k);rw[List.length_take] at h1
 omega
theorem refD_all (d l:List Int):(refD d l d.length).length≤d.length:=refD_len _ _ _
noncomputable def refF (c:xX) (l:List Int):xX:=⟨c.zB,refM c.yF (zLz c.zB) l c.yF.length,refD c.yC l c.yC.length⟩
noncomputable def refB (c:xX) (b:Int):xX × Int:=
 if tf (uV c)=true then (if inB b 0 (uC c.zB.zF - 1)=true then (refF c [b],0) else (wW,2)) else (wW,1)
noncomputable def refA (c:xX):xX × Int × Int:=
 if tf (uV c)=true then (refF c c.yC,(c.yC.length:Int),0) else (wW,0,1)
theorem refB_bad {c:xX} {b:Int} (h: ¬ uV c):refB c b=(wW,1):=if_neg (by rw[xH h];simp)
theorem refB_yes {c:xX} {b:Int} (h:uV c) (hb:inB b 0 (uC c.zB.zF - 1)=true):refB c b=(refF c [b],0):=by unfold refB;rw[if_pos (xI h),if_pos hb]
theorem refB_out {c:xX} {b:Int} (h:uV c) (hb:inB b 0 (uC c.zB.zF - 1)=false):refB c b=(wW,2):=by unfold refB;rw[if_pos (xI h),if_neg (by rw[hb];simp)]
theorem refA_bad {c:xX} (h: ¬ uV c):refA c=(wW,0,1):=if_neg (by rw[xH h];simp)
theorem refA_yes {c:xX} (h:uV c):refA c=(refF c c.yC,(c.yC.length:Int),0):=if_pos (xI h)
end
section
open Go.RowKit
structure RfM (w0 w:World) (s:xS) (F:List Nat) (c1:List Value) (g:Nat) (cs:Array Value) (vm vd:Value) (m d:List Int):Prop where
 bel:Below w0.heap.size w0 w
 box:Bk w g 65 cs
 gin:w0.heap.size≤g
 ses:T.ows w s.fs F c1
 snd:F.Nodup
 slo: ∀ b ∈ F,w0.heap.size≤b∧b≠g
 mix:OwI 2 w w0.heap.size vm m
 mdj: ∀ b,vm.ownBlock=some b→b≠g∧b ∉ F
 drt:OwI 2 w w0.heap.size vd d
 ddj: ∀ b,vd.ownBlock=some b→b≠g∧b ∉ F∧vm.ownBlock≠some b
section
variable {w0 w w':World} {s:xS} {F:List Nat} {c1:List Value} {g:Nat} {cs:Array Value} {vm vd:Value} {m d:List Int}
theorem RfM.below (h:RfM w0 w s F c1 g cs vm vd m d) (hb:Below w.heap.size w w'):RfM w0 w' s F c1 g cs vm vd m d:=
 ⟨yQ h.bel h.bel.size hb,h.box.below hb h.box.lt,h.gin,T.ows_all h.ses hb,h.snd,h.slo,wX h.mix hb,h.mdj,wX h.drt hb,h.ddj⟩
theorem RfM.setM {b n cap:Nat} (h:RfM w0 w s F c1 g cs (.slice (some ⟨b,0,none⟩) n cap) vd m d) (k:Nat) (x:Int):RfM w0 (w.setCell ⟨b,k,none⟩ (.int .i64 x)) s F c1 g cs (.slice (some ⟨b,0,none⟩) n cap) vd (m.set k x) d:=by
 have hb:=h.mdj b rfl;have hl:=(h.mix.lt b rfl).1;refine⟨h.bel.setCell hl _,h.box.far (fun e=>hb.1 e.symm) _,h.gin,T.yX h.ses hb.2 _ _,h.snd,h.slo,h.mix.setN k x,h.mdj,h.drt.far (fun q hq e=>(h.ddj q hq).2.2 (by show some b=some q;rw[show q=b from e])) _,h.ddj⟩
theorem RfM.setB (h:RfM w0 w s F c1 g cs vm vd m d) (j:Nat) (u:Value):RfM w0 (w.setCell ⟨g,j,none⟩ u) s F c1 g (cs.setIfInBounds j u) vm vd m d:=
 ⟨h.bel.setCell h.gin _,h.box.set_ j u,h.gin,T.yX h.ses (fun hm=>(h.slo g hm).2 rfl) _ _,h.snd,h.slo,h.mix.far (fun q hq=>(h.mdj q hq).1) _,h.mdj,h.drt.far (fun q hq=>(h.ddj q hq).1) _,h.ddj⟩
theorem RfM.app (h:RfM w0 w s F c1 g cs vm vd m d) {vd':Value} {d':List Int} (ho:OwI 2 w' w0.heap.size vd' d') (hg:w.grownBy w' vd.ownBlock) (hv: ∀ k,vd'.ownBlock=some k→vd.ownBlock=some k∨w.heap.size≤k):RfM w0 w' s F c1 g cs vm vd' m d':=by
 have hF: ∀ b ∈ F,b<w.heap.size:=T.ows_lt _ _ _ h.ses;have hgl:=h.box.lt;have hml:=h.mix.lt;refine⟨vH h.bel h.drt hg zJ h.bel.size,h.box.grown hg (fun e=>(h.ddj g e.symm).1 rfl),h.gin,T.ows_keep _ _ _ (fun b hb=>hg.block b (hF b hb) (fun e=>(h.ddj b e.symm).2.1 hb)) h.ses,h.snd,h.slo,zRy h.mix hg (fun b hb e=>(h.ddj b e).2.2 hb),h.mdj,ho,fun b hb=>?_⟩
 rcases hv b hb with e|e
 ·exact h.ddj b e
 ·exact⟨by omega,fun hm=>by have:=hF b hm;omega,fun e2=>by have:=(hml b e2).2;omega⟩
theorem RfM.own (h:RfM w0 w s F c1 g cs vm vd m d):T.ows w (xX.fs ⟨s,m,d⟩) (F++vm.ownBlock.toList++vd.ownBlock.toList) (c1++ [vm]++ [vd])∧(F++vm.ownBlock.toList++vd.ownBlock.toList).Nodup∧(∀ b ∈ F++vm.ownBlock.toList++vd.ownBlock.toList,w0.heap.size≤b):=by
 have n1: ∀ v:Value,v.ownBlock.toList.Nodup:=fun v=>by cases v.ownBlock<;>simp
 refine⟨T.ows_snoc (T.ows_snoc h.ses (T.ow_ints.2 ⟨h.mix.more (Nat.zero_le _),rfl⟩)) (T.ow_ints.2 ⟨h.drt.more (Nat.zero_le _),rfl⟩),?_,?_⟩
 ·rw[List.nodup_append,List.nodup_append]
  refine⟨⟨h.snd,n1 vm,fun a ha b hb e=>?_⟩,n1 vd,fun a ha b hb e=>?_⟩
  ·subst e;exact(h.mdj a (by simpa using hb)).2 ha
  ·subst e
   have h2:=h.ddj a (by simpa using hb)
   rcases List.mem_append.1 ha with ha|ha
   ·exact h2.2.1 ha
   ·exact h2.2.2 (by simpa using ha)
 ·intro b hb
  rcases List.mem_append.1 hb with hb|hb
  ·rcases List.mem_append.1 hb with hb|hb
   ·exact(h.slo b hb).1
   ·exact(h.mix.lt b (by simpa using hb)).1
  ·exact(h.drt.lt b (by simpa using hb)).1
end
structure Acc (W0 W:World) (s:xS) (m:List Int) (og:Option Nat) (oF:Option (List Nat × List Value)) (om:Option Value) (ob:Option Nat):Prop where
 bel:Below W0.heap.size W0 W
 box: ∀ g,og=some g→Bk W g 65 #[.int .i64 0,.slice none 0 0,.slice none 0 0,.slice none 0 0,.slice none 0 0,.slice none 0 0,.slice none 0 0,.slice none 0 0]∧W0.heap.size≤g
 ses: ∀ F c,oF=some (F,c)→T.ows W s.fs F c∧F.Nodup∧ ∀ b ∈ F,W0.heap.size≤b
 mix: ∀ v,om=some v→OwI 2 W W0.heap.size v m
 drt: ∀ b,ob=some b→OwI 2 W W0.heap.size (.slice (some ⟨b,0,none⟩) 0 0) []
 gF: ∀ g F c,og=some g→oF=some (F,c)→g ∉ F
 gm: ∀ g v,og=some g→om=some v→v.ownBlock≠some g
 gb: ∀ g b,og=some g→ob=some b→b≠g
 Fm: ∀ F c v b,oF=some (F,c)→om=some v→v.ownBlock=some b→b ∉ F
 Fb: ∀ F c b,oF=some (F,c)→ob=some b→b ∉ F
 mb: ∀ v b,om=some v→ob=some b→v.ownBlock≠some b
section
variable {W0 W W':World} {s:xS} {m:List Int} {og:Option Nat} {oF:Option (List Nat × List Value)} {om:Option Value} {ob:Option Nat} {F:List Nat} {c:List Value} {v:Value}
theorem Acc.more (h:Acc W0 W s m og oF om ob) (hb:Below W.heap.size W W'):Acc W0 W' s m og oF om ob:=
 ⟨yQ h.bel h.bel.size hb,fun g e=>⟨(h.box g e).1.below hb (h.box g e).1.lt,(h.box g e).2⟩,fun F c e=>⟨T.ows_all (h.ses F c e).1 hb,(h.ses F c e).2⟩,fun v e=>wX (h.mix v e) hb,fun b e=>wX (h.drt b e) hb,h.gF,h.gm,h.gb,h.Fm,h.Fb,h.mb⟩
theorem Acc.start (h:Below W0.heap.size W0 W):Acc W0 W s m none none none none:=
 ⟨h,fun _ e=>(by cases e),fun _ _ e=>(by cases e),fun _ e=>(by cases e),fun _ e=>(by cases e),fun _ _ _ e=>(by cases e),fun _ _ e=>(by cases e),fun _ _ e=>(by cases e),fun _ _ _ _ e=>(by cases e),fun _ _ _ e=>(by cases e),fun _ _ e=>(by cases e)⟩
theorem Acc.addBox (h:Acc W0 W s m none oF om ob):Acc W0 (W.alloc (.cells #[.int .i64 0,.slice none 0 0,.slice none 0 0,.slice none 0 0,.slice none 0 0,.slice none 0 0,.slice none 0 0,.slice none 0 0] 65)) s m (some W.heap.size) oF om ob:=by
 have k:=h.more (show Below W.heap.size W (W.alloc (.cells #[.int .i64 0,.slice none 0 0,.slice none 0 0,.slice none 0 0,.slice none 0 0,.slice none 0 0,.slice none 0 0,.slice none 0 0] 65)) from zR.alloc zJ _);have hz:=h.bel.size;refine⟨k.bel,fun g e=>by cases e;exact⟨Bk.born _ _ _,hz⟩,k.ses,k.mix,k.drt,fun g F c e e2 hm=>?_,fun g v e e2 e3=>?_,fun g b e e2 e3=>?_,k.Fm,k.Fb,k.mb⟩
 ·cases e;have:=T.ows_lt _ _ _ (h.ses F c e2).1 _ hm;omega
 ·cases e;have:=((h.mix v e2).lt _ e3).2;omega
 ·cases e;have:=((h.drt b e2).lt b rfl).2;omega
theorem Acc.addBs (h:Acc W0 W s m og oF om none):Acc W0 (W.alloc (.cells #[] 2)) s m og oF om (some W.heap.size):=by
 have k:=h.more (show Below W.heap.size W (W.alloc (.cells #[] 2)) from zR.alloc zJ _);have hz:=h.bel.size;refine⟨k.bel,k.box,k.ses,k.mix,fun b e=>by cases e;exact(vL W).more hz,k.gF,k.gm,fun g b e e2 e3=>?_,k.Fm,fun F c b e e2 hm=>?_,fun v b e e2 e3=>?_⟩
 ·cases e2;have:=(h.box g e).1.lt;omega
 ·cases e2;have:=T.ows_lt _ _ _ (h.ses F c e).1 _ hm;omega
 ·cases e2;have:=((h.mix v e).lt _ e3).2;omega
theorem Acc.addSes (h:Acc W0 W s m og none om ob) (hN:Nw W W' s.fs F c):Acc W0 W' s m og (some (F,c)) om ob:=by
 have k:=h.more hN.below;refine⟨k.bel,k.box,fun F' c' e=>by cases e;exact⟨hN.ows,hN.nodup,fun b hb=>Nat.le_trans h.bel.size (hN.lo b hb)⟩,k.mix,k.drt,fun g F' c' e e2 hm=>?_,k.gm,k.gb,fun F' c' v b e e2 e3 hm=>?_,fun F' c' b e e2 hm=>?_,k.mb⟩
 ·cases e2;have h1:=hN.lo g hm;have h2:=(h.box g e).1.lt;omega
 ·cases e;have h1:=hN.lo b hm;have h2:=((h.mix v e2).lt b e3).2;omega
 ·cases e;have h1:=hN.lo b hm;have h2:=((h.drt b e2).lt b rfl).2;omega
theorem Acc.addMix (h:Acc W0 W s m og oF none ob) (ho:OwI 2 W' W.heap.size v m) (hb:Below W.heap.size W W'):Acc W0 W' s m og oF (some v) ob:=by
 have k:=h.more hb;refine⟨k.bel,k.box,k.ses,fun v' e=>by cases e;exact ho.more h.bel.size,k.drt,k.gF,fun g v' e e2 e3=>?_,k.gb,fun F c v' b e e2 e3 hm=>?_,k.Fb,fun v' b e e2 e3=>?_⟩
 ·cases e2;have h1:=(ho.lt g e3).1;have h2:=(h.box g e).1.lt;omega
 ·cases e2;have h1:=(ho.lt b e3).1;have h2:=T.ows_lt _ _ _ (h.ses F c e).1 b hm;omega
 ·cases e;have h1:=(ho.lt b e3).1;have h2:=((h.drt b e2).lt b rfl).2;omega
theorem Acc.fin {g bd:Nat} (h:Acc W0 W s m (some g) (some (F,c)) (some v) (some bd)):RfM W0 W s F c g #[.int .i64 0,.slice none 0 0,.slice none 0 0,.slice none 0 0,.slice none 0 0,.slice none 0 0,.slice none 0 0,.slice none 0 0] v (.slice (some ⟨bd,0,none⟩) 0 0) m []:=
 ⟨h.bel,(h.box g rfl).1,(h.box g rfl).2,(h.ses F c rfl).1,(h.ses F c rfl).2.1,fun b hb=>⟨(h.ses F c rfl).2.2 b hb,fun e=>h.gF g F c rfl rfl (e ▸ hb)⟩,h.mix v rfl,fun b e=>⟨fun e2=>h.gm g v rfl rfl (e2 ▸ e),h.Fm F c v b rfl rfl e⟩,h.drt bd rfl,fun b e=>by
  obtain rfl:bd=b:=by simpa[Value.ownBlock] using e
  exact⟨h.gb g bd rfl rfl,h.Fb F c bd rfl rfl,h.mb v bd rfl rfl⟩⟩
theorem Acc.fin0 {g:Nat} (h:Acc W0 W s m (some g) (some (F,c)) (some v) none):RfM W0 W s F c g #[.int .i64 0,.slice none 0 0,.slice none 0 0,.slice none 0 0,.slice none 0 0,.slice none 0 0,.slice none 0 0,.slice none 0 0] v (.slice none 0 0) m []:=
 ⟨h.bel,(h.box g rfl).1,(h.box g rfl).2,(h.ses F c rfl).1,(h.ses F c rfl).2.1,fun b hb=>⟨(h.ses F c rfl).2.2 b hb,fun e=>h.gF g F c rfl rfl (e ▸ hb)⟩,h.mix v rfl,fun b e=>⟨fun e2=>h.gm g v rfl rfl (e2 ▸ e),h.Fm F c v b rfl rfl e⟩,OwI.nil_ _ _ _,fun b e=>by simp[Value.ownBlock] at e⟩
theorem RfM.fill {g:Nat} {u0 u1 u2 u3 u4 u5 vm vd:Value} {d:List Int} (h:RfM W0 W s F c g #[.int .i64 0,.slice none 0 0,.slice none 0 0,.slice none 0 0,.slice none 0 0,.slice none 0 0,.slice none 0 0,.slice none 0 0] vm vd m d):
  RfM W0 ((((((((W.setCell ⟨g,0,none⟩ u0).setCell ⟨g,1,none⟩ u1).setCell ⟨g,2,none⟩ u2).setCell ⟨g,3,none⟩ u3).setCell ⟨g,4,none⟩ u4).setCell ⟨g,5,none⟩ u5).setCell ⟨g,6,none⟩ vm).setCell ⟨g,7,none⟩ vd) s F c g #[u0,u1,u2,u3,u4,u5,vm,vd] vm vd m d:=by
 have k:=(((((((h.setB 0 u0).setB 1 u1).setB 2 u2).setB 3 u3).setB 4 u4).setB 5 u5).setB 6 vm).setB 7 vd
 simpa only[List.setIfInBounds_toArray,List.set_cons_zero,List.set_cons_succ] using k
end
theorem c_refreshed (x:xX) (cs:List Value) (v:Value) (l:List Int) (w:World) (hs:x.small) (hv:uV x) (hgd:x.good) (hl:RdI w v l) (h:T.rds w x.fs cs):Calls Tryz.prog 85 #[.agg cs.toArray,v] w fun e w'=> ∃ v1 v2 v3 v4 v5 v6 v7 F,e= .returned (.agg #[.int .i64 x.zB.zF,v1,v2,v3,v4,v5,v6,v7])∧Nw w w' (refF x l).fs F [.int .i64 x.zB.zF,v1,v2,v3,v4,v5,v6,v7]:=by
 obtain⟨v1,v2,v3,v4,v5,v6,v7,rfl,h1,h2,h3,h4,h5,h6,h7⟩:=xX.yV h;clear h;obtain⟨va1,vc1,rfl,vl1,vm1,R1,HX1⟩:=oG h1;clear h1;obtain⟨va2,vc2,rfl,vl2,vm2,R2,HX2⟩:=oG h2;clear h2;obtain⟨va3,vc3,rfl,vl3,vm3,R3,HX3⟩:=oI h3;clear h3;obtain⟨va4,vc4,rfl,vl4,vm4,R4,HX4⟩:=oG h4;clear h4;obtain⟨va5,vc5,rfl,vl5,vm5,R5,HX5⟩:=oG h5;clear h5;obtain⟨va6,vc6,rfl,vl6,vm6,R6,HX6⟩:=oI h6;clear h6;obtain⟨va7,vc7,rfl,vl7,vm7,R7,HX7⟩:=oI h7;clear h7;have HB0:=xN (show Below w.heap.size w (w.alloc (.cells #[.int .i64 x.zB.zF,(.slice va1 x.zB.zI.length vc1),(.slice va2 x.zB.zL.length vc2),(.slice va3 x.zB.zX.length vc3),(.slice va4 x.zB.zO.length vc4),(.slice va5 x.zB.zH.zD.length vc5),(.slice va6 x.yF.length vc6),(.slice va7 x.yC.length vc7)] 65)) from zR.alloc zJ _);have HK0:=xN (Bk.born w 65 #[.int .i64 x.zB.zF,(.slice va1 x.zB.zI.length vc1),(.slice va2 x.zB.zL.length vc2),(.slice va3 x.zB.zX.length vc3),(.slice va4 x.zB.zO.length vc4),(.slice va5 x.zB.zH.zD.length vc5),(.slice va6 x.yF.length vc6),(.slice va7 x.yC.length vc7)]);have HSS:=xN (show x.zB.small from⟨hs.1,hs.2.1,hs.2.2.1,hs.2.2.2.1,hs.2.2.2.2.1⟩);have HML:=xN (show x.yF.length≤1048576 from hs.2.2.2.2.2.1);have HV:=xN hv;have HGS:=xN (show x.zB.good from⟨hgd.1,hgd.2.1,hgd.2.2.1,hgd.2.2.2.1,hgd.2.2.2.2.1,hgd.2.2.2.2.2.1⟩);have hdl:x.yC.length≤1048576:=hs.2.2.2.2.2.2;clear hs hgd;have i1:=xK.1 hv.session.length;have hml:=hv.length;have hmb:x.yF.length≤1000:=zM;have HXL:=xN (show (zLz x.zB).length=x.yF.length by rw[uWz];omega);have HLQ:=xN hml;clear hv hml i1;have HL:=xN hl;clear hl;have GS:=xN (show ∀ w',Below w.heap.size w w'→T.rds w' x.zB.fs [.int .i64 x.zB.zF,(.slice va1 x.zB.zI.length vc1),(.slice va2 x.zB.zL.length vc2),(.slice va3 x.zB.zX.length vc3),(.slice va4 x.zB.zO.length vc4),(.slice va5 x.zB.zH.zD.length vc5)] from fun w' hb=>xS.rd_mk (T.yM R1.out hb) (T.yM R2.out hb) (T.xB.2 (Rd.below R3.out hb)) (T.yM R4.out hb) (T.yM R5.out hb));have HBa:=xN (HB0.out.alloc (by simp) (.cells #[.int .i64 0,.slice none 0 0,.slice none 0 0,.slice none 0 0,.slice none 0 0,.slice none 0 0,.slice none 0 0,.slice none 0 0] 65));have HP:=xN (HK0.out.alloc (.cells #[.int .i64 0,.slice none 0 0,.slice none 0 0,.slice none 0 0,.slice none 0 0,.slice none 0 0,.slice none 0 0,.slice none 0 0] 65));have HR:Sec (Bk _ (w.heap.size+1) 65 #[.int .i64 0,.slice none 0 0,.slice none 0 0,.slice none 0 0,.slice none 0 0,.slice none 0 0,.slice none 0 0,.slice none 0 0]):=xN (Bk.born1' w (.cells #[.int .i64 x.zB.zF,(.slice va1 x.zB.zI.length vc1),(.slice va2 x.zB.zL.length vc2),(.slice va3 x.zB.zX.length vc3),(.slice va4 x.zB.zO.length vc4),(.slice va5 x.zB.zH.zD.length vc5),(.slice va6 x.yF.length vc6),(.slice va7 x.yC.length vc7)] 65) 65 #[.int .i64 0,.slice none 0 0,.slice none 0 0,.slice none 0 0,.slice none 0 0,.slice none 0 0,.slice none 0 0,.slice none 0 0]);clear HB0 HK0;generalize hW:((w.alloc (.cells #[.int .i64 x.zB.zF,(.slice va1 x.zB.zI.length vc1),(.slice va2 x.zB.zL.length vc2),(.slice va3 x.zB.zX.length vc3),(.slice va4 x.zB.zO.length vc4),(.slice va5 x.zB.zH.zD.length vc5),(.slice va6 x.yF.length vc6),(.slice va7 x.yC.length vc7)] 65)).alloc (.cells #[.int .i64 0,.slice none 0 0,.slice none 0 0,.slice none 0 0,.slice none 0 0,.slice none 0 0,.slice none 0 0,.slice none 0 0] 65))=W0 at *;have HW:=xN hW;clear hW
 go_enter Tryz.func85,Tryz.ntmps85
 have cP:=HP.out.cell;have lP:=HP.out.lt;have cR:=HR.out.cell;have lR:=HR.out.lt;go_wp2_with fail
 rw[HW.out];rename_i Q1 K1 hK1
 have REST: ∀ (g:Nat) (u10 u11 u12 u13 u14 u15 u16:Value) (A1 A2 A3 A4 A5 A6:Option Addr) (L1 C1 L2 C2 L3 C3 L4 C4 L5 C5 L6 C6:Nat) (F:List Nat) (W1:World),RfM W0 W1 x.zB F [.int .i64 x.zB.zF,.slice A1 L1 C1,.slice A2 L2 C2,.slice A3 L3 C3,.slice A4 L4 C4,.slice A5 L5 C5] g #[.int .i64 x.zB.zF,.slice A1 L1 C1,.slice A2 L2 C2,.slice A3 L3 C3,.slice A4 L4 C4,.slice A5 L5 C5,.slice A6 L6 C6,.slice none 0 0] (.slice A6 L6 C6) (.slice none 0 0) x.yF []→K1 { tmps:= #[.agg #[.int .i64 x.zB.zF,(.slice va1 x.zB.zI.length vc1),(.slice va2 x.zB.zL.length vc2),(.slice va3 x.zB.zX.length vc3),(.slice va4 x.zB.zO.length vc4),(.slice va5 x.zB.zH.zD.length vc5),(.slice va6 x.yF.length vc6),(.slice va7 x.yC.length vc7)],v,.pointer (some ⟨w.heap.size,0,none⟩),undef,.pointer (some ⟨w.heap.size+1,0,none⟩),.pointer (some ⟨g,0,none⟩),undef,undef,undef,undef,u10,u11,u12,u13,u14,u15,u16,undef,undef,undef,undef,undef,undef,undef,undef,undef,undef,undef,undef,undef,undef,undef,undef,undef,undef,undef,undef,undef,undef,undef,undef,undef,undef,undef,undef,undef,undef,undef,undef,undef,undef,undef,undef,undef,undef],defers:= [] } W1:=by
  intro g u10 u11 u12 u13 u14 u15 u16 A1 A2 A3 A4 A5 A6 L1 C1 L2 C2 L3 C3 L4 C4 L5 C5 L6 C6 F w1 hm;refine hK1 _ _ ?_;clear hK1 K1 cP lP cR lR;have HM1:=xN hm;have HB1:=xN (yQ HBa.out HBa.out.size hm.bel);have HP1:=xN (HP.out.below hm.bel HP.out.lt);have cP:=HP1.out.cell;have lP:=HP1.out.lt;clear hm;go_wp2_with fail
  refine(c_mix x.zB _ _ HV.out.session HGS.out (GS.out _ HB1.out)).mono ?_;rintro e w2 ⟨vm,rfl,ho,hb⟩;obtain⟨mA,mc,hvm,-,-,-⟩:=(OwI.rd ho).open_;rw[HXL.out] at hvm;subst hvm;have HMX:=xN ho;have HM2:=xN (HM1.out.below hb);have hs12:=hb.size;clear ho hb cP lP;have HB2:=xN (yQ HBa.out HBa.out.size HM2.out.bel);have HGQ:=xN HM1.out.box.lt;have HMQ:=xN (fun b hb=>(HM1.out.mix.lt b hb).2);go_wp2
  go_loopw [21] (fun i wr=> ∃ k:Nat,k≤x.yF.length∧i= .int .i64 (k:Int)∧RfM W0 wr x.zB F [.int .i64 x.zB.zF,.slice A1 L1 C1,.slice A2 L2 C2,.slice A3 L3 C3,.slice A4 L4 C4,.slice A5 L5 C5] g #[.int .i64 x.zB.zF,.slice A1 L1 C1,.slice A2 L2 C2,.slice A3 L3 C3,.slice A4 L4 C4,.slice A5 L5 C5,.slice A6 L6 C6,.slice none 0 0] (.slice A6 L6 C6) (.slice none 0 0) (refM x.yF (zLz x.zB) l k) []∧OwI 2 wr w1.heap.size (.slice mA x.yF.length mc) (zLz x.zB)∧w1.heap.size≤wr.heap.size) (fun i _=>x.yF.length - (intOf i).toNat)
  case atStart=>exact⟨0,Nat.zero_le _,rfl,by rw[refM_zero];exact HM2.out,HMX.out,hs12⟩
  case round=>
   obtain⟨k,hk,rfl,hm,hx,hz⟩:=hrel;have HMk:=xN hm;have HXk:=xN hx;have HB:=xN (yQ HBa.out HBa.out.size hm.bel);have HPk:=xN (HP.out.below hm.bel HP.out.lt);clear hm hx;have e2:IntKind.i64.wrap ((k:Int)+1)=(k:Int)+1:=IntWalk.i64_in _ zM;by_cases hlt:k<x.yF.length
   rotate_left
   ·
    obtain rfl:k=x.yF.length:=by omega
    have HM3:=xN HMk.out;have hz3:W0.heap.size≤wr.heap.size:=HMk.out.bel.size;clear HMk HXk HM2 HMX;generalize hR:refM x.yF (zLz x.zB) l x.yF.length=RM at *;have HRM:=xN hR;clear hR;have cP:=HPk.out.cell;have lP:=HPk.out.lt;go_wp2;have HPk2:=HPk;clear cP lP
    go_loopw [39] (fun i wr=> ∃ (k:Nat) (tA:Option Addr) (tL tC:Nat),k≤x.yC.length∧i= .int .i64 (k:Int)∧RfM W0 wr x.zB F [.int .i64 x.zB.zF,.slice A1 L1 C1,.slice A2 L2 C2,.slice A3 L3 C3,.slice A4 L4 C4,.slice A5 L5 C5] g #[.int .i64 x.zB.zF,.slice A1 L1 C1,.slice A2 L2 C2,.slice A3 L3 C3,.slice A4 L4 C4,.slice A5 L5 C5,.slice A6 L6 C6,.slice tA tL tC] (.slice A6 L6 C6) (.slice tA tL tC) RM (refD x.yC l k)) (fun i _=>x.yC.length - (intOf i).toNat)
    case atStart=>exact⟨0,none,0,0,Nat.zero_le _,rfl,HM3.out⟩
    case round=>
     obtain⟨k,tA,tL,tC,hk,rfl,hm⟩:=hrel;have HMd:=xN hm;have HBd:=xN (yQ HBa.out HBa.out.size hm.bel);have HPd:=xN (HP.out.below hm.bel HP.out.lt);have HRd:=xN (HR.out.below hm.bel HR.out.lt);clear hm;have kP:=HPd.out.cell;have mP:=HPd.out.lt;have kG:=HMd.out.box.cell;have mG:=HMd.out.box.lt;have fG:=HMd.out.box.free;have kR:=HRd.out.cell;have mR:=HRd.out.lt;have fR:=HRd.out.free;by_cases hlt:k<x.yC.length
     rotate_left
     ·
      obtain rfl:k=x.yC.length:=by omega
      go_wp2;refine bodyPost_ret (v:= .agg #[.int .i64 x.zB.zF,.slice A1 L1 C1,.slice A2 L2 C2,.slice A3 L3 C3,.slice A4 L4 C4,.slice A5 L5 C5,.slice A6 L6 C6,.slice tA tL tC]) (by simp[results,Tryz.results85,go_sem,kR,fR,mR]) rfl ?_;obtain⟨k1,k2,k3⟩:=HMd.out.own;generalize F++(Value.slice A6 L6 C6).ownBlock.toList++(Value.slice tA tL tC).ownBlock.toList=FF at *;have hz1:=HR.out.lt;have hz0:=HBa.out.size;have hzR:w.heap.size+1 ∉ FF:=fun hm=>by have:=k3 _ hm;omega
      have e9:refF x l=⟨x.zB,RM,refD x.yC l x.yC.length⟩:=by unfold refF;rw[HRM.out]
      rw[e9];exact⟨_,_,_,_,_,_,_,FF,rfl,⟨(T.yX (T.yX (T.yX (T.yX (T.yX (T.yX (T.yX (T.yX k1 hzR _ _) hzR _ _) hzR _ _) hzR _ _) hzR _ _) hzR _ _) hzR _ _) hzR _ _),k2,fun q hq=>by have:=k3 q hq;omega,((((((((HBd.out.setCell zQ _).setCell zQ _).setCell zQ _).setCell zQ _).setCell zQ _).setCell zQ _).setCell zQ _).setCell zQ _)⟩⟩
     have hgx:=gE hlt;obtain⟨bX,oX,hAX,hbX,hcX⟩:=HX7.out k _ hgx;subst hAX;generalize x.yC[k]=ax at *;have HGX:=xN hgx;clear hgx;have cX:=(HBd.out.cell hbX).trans hcX;have lX:bX<wr.heap.size:=zW hbX HBd.out.size;clear hcX;have e2:IntKind.i64.wrap ((k:Int)+1)=(k:Int)+1:=IntWalk.i64_in _ zM;by_cases h5:ax ∈ l
     ·
      have q5:decide (ax ∈ l)=true:=decide_eq_true h5;have HQ:=xN (refD_no HGX.out h5);clear h5;go_wp2_with (go_at_call 62;refine(c_has _ l _ _ (Rd.below HL.out HBd.out)).mono ?_;rintro e _ ⟨rfl,rfl⟩;rw[q5])
      go_roundw
      case rel=>exact⟨k+1,tA,tL,tC,by omega,by go_num,by rw[HQ.out];exact HMd.out⟩
      case measure=>simp[intOf];omega
     have q5:decide (ax ∈ l)=false:=decide_eq_false h5;have HQ:=xN (refD_yes HGX.out h5);clear h5;have hll:(refD x.yC l k).length+1≤17592186044416:=by have:=refD_len x.yC l k;omega
     have hsz:W0.heap.size≤wr.heap.size:=HMd.out.bel.size;go_wp2_with (first|(go_at_call 62;refine(c_has _ l _ _ (Rd.below HL.out HBd.out)).mono ?_;rintro e _ ⟨rfl,rfl⟩;rw[q5])|(at_builtin;refine zDz (n:=ax) (v:= .slice tA tL tC) rfl _ _ rfl rfl HMd.out.drt rfl hll hsz ?_;intro v8 w8 ho8 hg8 hv8;obtain⟨t8,l8,c8,rfl⟩:=T.xE (T.ow_ints.2 ⟨ho8.more (Nat.zero_le _),rfl⟩);have HM8:=xN (HMd.out.app ho8 hg8 hv8);have kG8:=HM8.out.box.cell;have mG8:=HM8.out.box.lt;have fG8:=HM8.out.box.free;clear ho8 hg8 hv8 kG mG fG kP mP kR mR fR cX lX))
     go_roundw
     case rel=>exact⟨k+1,t8,l8,c8,by omega,by go_num,by rw[HQ.out];have:=HM8.out.setB 7 (.slice t8 l8 c8);simpa using this⟩
     case measure=>simp[intOf];omega
   have hlm:k<(zLz x.zB).length:=by rw[HXL.out];exact hlt
   have hgm:=gE hlm;obtain⟨bM,cM,hAM,-⟩: ∃ bM cM,Value.slice mA x.yF.length mc= .slice (some ⟨bM,0,none⟩) (zLz x.zB).length cM∧True:=by obtain⟨g9,c9,e9,_⟩:=HXk.out.form zM;exact⟨g9,c9,e9,trivial⟩
   injection hAM with a1 a2 a3;subst a1 a3;clear a2;obtain⟨b6,c6,hA6,-⟩: ∃ b6 c6,Value.slice A6 L6 C6= .slice (some ⟨b6,0,none⟩) x.yF.length c6∧True:=by obtain⟨g9,c9,e9,_⟩:=HMk.out.mix.form (by rw[uD];omega);rw[uD] at e9;exact⟨g9,c9,e9,trivial⟩
   injection hA6 with a4 a5 a6;subst a4 a5 a6;have cX:=HXk.out.yJz hgm;have HGD:=xN (show (zLz x.zB).getD k 0=(zLz x.zB)[k] by rw[List.getD_eq_getElem?_getD,hgm];rfl);generalize (zLz x.zB)[k]=am at *;clear hgm;have lX:bM<wr.heap.size:=(HXk.out.lt bM rfl).2;have hok:k<(refM x.yF (zLz x.zB) l k).length:=(by rw[uD];exact hlt);have hgo:=gE hok;have cO:=HMk.out.mix.yJz hgo;have fO:=HMk.out.mix.freeN k;have lO:=(HMk.out.mix.lt b6 rfl).2;generalize (refM x.yF (zLz x.zB) l k)[k]=ao at *;clear hgo hok;have hdv:(k:Int).tdiv 16=(k:Int) / 16:=Int.tdiv_eq_ediv_of_nonneg zM;have kG:=HMk.out.box.cell;have mG:=HMk.out.box.lt;have HNB:=xN (show b6<w1.heap.size from HMQ.out b6 rfl);by_cases h5:(k:Int) / 16 ∈ l
   ·
    have q5:decide ((k:Int) / 16 ∈ l)=true:=decide_eq_true h5;have HQ:=xN (refM_yes (m:=x.yF) (mix:=(zLz x.zB)) h5);clear h5;go_wp2_with (go_at_call 62;refine(c_has _ l _ _ (Rd.below HL.out HB.out)).mono ?_;rintro e _ ⟨rfl,rfl⟩;rw[q5])
    go_roundw
    case rel=>exact⟨k+1,by omega,by go_num,by rw[HQ.out,HGD.out];exact HMk.out.setM k am,HXk.out.far (fun q hq e=>by have h1:=(HXk.out.lt q hq).1;have h2:=HNB.out;have h3:q=b6:=e;omega) _,by simpa[World.setCell] using hz⟩
    case measure=>simp[intOf];omega
   have q5:decide ((k:Int) / 16 ∈ l)=false:=decide_eq_false h5;have HQ:=xN (refM_no (m:=x.yF) (mix:=(zLz x.zB)) h5);clear h5;go_wp2_with (go_at_call 62;refine(c_has _ l _ _ (Rd.below HL.out HB.out)).mono ?_;rintro e _ ⟨rfl,rfl⟩;rw[q5])
   go_roundw
   case rel=>exact⟨k+1,by omega,by go_num,by rw[HQ.out];exact HMk.out,HXk.out,hz⟩
   case measure=>simp[intOf];omega
 have HREST:=xN REST;clear REST hK1;clear cP lP cR lR;have HDr:=xN ((Below.refl W0.heap.size W0).drew);have HKP:=xN (fun(w':World) (hw:Below W0.heap.size W0 w')=>((HP.out.below hw HP.out.lt).cell: ∀ i,w'.cell? ⟨w.heap.size,i,none⟩= #[.int .i64 x.zB.zF,(.slice va1 x.zB.zI.length vc1),(.slice va2 x.zB.zL.length vc2),(.slice va3 x.zB.zX.length vc3),(.slice va4 x.zB.zO.length vc4),(.slice va5 x.zB.zH.zD.length vc5),(.slice va6 x.yF.length vc6),(.slice va7 x.yC.length vc7)][i]?));refine wH (fun w'=> ∀ i,w'.cell? ⟨w.heap.size,i,none⟩= #[.int .i64 x.zB.zF,(.slice va1 x.zB.zI.length vc1),(.slice va2 x.zB.zL.length vc2),(.slice va3 x.zB.zX.length vc3),(.slice va4 x.zB.zO.length vc4),(.slice va5 x.zB.zH.zD.length vc5),(.slice va6 x.yF.length vc6),(.slice va7 x.yC.length vc7)][i]?) [8] (by kernel_rfl) ?_ (fun hS0=>?_)
 ·exact HKP.out _ HDr.out
 generalize hwd:W0.drew=wd at *;clear hwd;refine zN 0 hS0 ?_;refine zN 1 hS0 ?_;refine zN 3 hS0 ?_;refine zN 4 hS0 ?_;have H_0:=xN (show Acc W0 wd x.zB x.yF none none none none from Acc.start HDr.out);refine vS (i:=2) (j:=7) (o:=_) (o2:=_) (by kernel_rfl) rfl rfl (fun K hK=>?_) (fun K hK=>?_)
 ·
  go_simp;go_wp2_with (go_at_call 45;refine(vEz x.zB _ _ HSS.out (GS.out _ (yQ HBa.out HBa.out.size H_0.out.bel))).mono ?_;rintro e wS ⟨v1,v2,v3,v4,v5,F,rfl,hN⟩)
  obtain⟨⟨A1,L1,C1,rfl⟩,⟨A2,L2,C2,rfl⟩,⟨A3,L3,C3,rfl⟩,⟨A4,L4,C4,rfl⟩,⟨A5,L5,C5,rfl⟩⟩:=xS.sl5 (T.ows_rds _ _ _ hN.ows);have H_1:=xN (H_0.out.addSes hN);clear hN;refine uN hK ?_ (fun hS1=>?_)
  ·exact HKP.out _ H_1.out.bel
  clear hK K hS0;refine vS (i:=5) (j:=7) (o:=_) (o2:=_) (by kernel_rfl) rfl rfl (fun K hK=>?_) (fun K hK=>?_)
  ·
   go_simp;go_wp2_with (go_at_call 112;refine(yFz _ x.yF _ (Rd.below R6.out (yQ HBa.out HBa.out.size H_1.out.bel)) HML.out).mono ?_;rintro e wM ⟨vm,rfl,ho,hb⟩)
   obtain⟨A6,L6,C6,rfl⟩:=T.xE (T.ow_ints.2 ⟨ho.more (Nat.zero_le _),rfl⟩);have H_2:=xN (H_1.out.addMix ho hb);clear ho hb;refine uN hK ?_ (fun hS2=>?_)
   ·exact HKP.out _ H_2.out.bel
   clear hK K hS1;refine zN 6 hS2 ?_;refine pN 7 (fun K hK=>?_);have H_3:=xN H_2.out.addBox;generalize hwb:(wM.alloc (.cells #[.int .i64 0,.slice none 0 0,.slice none 0 0,.slice none 0 0,.slice none 0 0,.slice none 0 0,.slice none 0 0,.slice none 0 0] 65))=wB at *;go_simp
   try rw[hwb]
   clear hwb;refine uN hK ?_ (fun hS3=>?_)
   ·exact HKP.out _ H_3.out.bel
   clear hK K hS2;refine vJ (i:=8) (o:=_) (by kernel_rfl) rfl (by kernel_rfl) (by decide) ?_;have hm0:=H_3.out.fin0;have cG:=hm0.box.cell;have fG:=hm0.box.free;have lG:=hm0.box.lt;have HF:=xN hm0;clear hm0;go_wp2;exact HREST.out _ _ _ _ _ _ _ _ _ _ _ _ _ _ _ _ _ _ _ _ _ _ _ _ _ _ F _ HF.out.fill
  ·
   have H_4:=xN H_1.out.addBox;generalize hwb:(wS.alloc (.cells #[.int .i64 0,.slice none 0 0,.slice none 0 0,.slice none 0 0,.slice none 0 0,.slice none 0 0,.slice none 0 0,.slice none 0 0] 65))=wB at *;go_simp
   try rw[hwb]
   clear hwb;refine uN hK ?_ (fun hS2=>?_)
   ·exact HKP.out _ H_4.out.bel
   clear hK K hS1;refine pN 5 (fun K hK=>?_);go_simp;go_wp2_with (go_at_call 112;refine(yFz _ x.yF _ (Rd.below R6.out (yQ HBa.out HBa.out.size H_4.out.bel)) HML.out).mono ?_;rintro e wM ⟨vm,rfl,ho,hb⟩)
   obtain⟨A6,L6,C6,rfl⟩:=T.xE (T.ow_ints.2 ⟨ho.more (Nat.zero_le _),rfl⟩);have H_5:=xN (H_4.out.addMix ho hb);clear ho hb;refine uN hK ?_ (fun hS3=>?_)
   ·exact HKP.out _ H_5.out.bel
   clear hK K hS2;refine zN 6 hS3 ?_;refine vJ (i:=8) (o:=_) (by kernel_rfl) rfl (by kernel_rfl) (by decide) ?_;have hm0:=H_5.out.fin0;have cG:=hm0.box.cell;have fG:=hm0.box.free;have lG:=hm0.box.lt;have HF:=xN hm0;clear hm0;go_wp2;exact HREST.out _ _ _ _ _ _ _ _ _ _ _ _ _ _ _ _ _ _ _ _ _ _ _ _ _ _ F _ HF.out.fill
 ·
  have H_6:=xN H_0.out.addBox;generalize hwb:(wd.alloc (.cells #[.int .i64 0,.slice none 0 0,.slice none 0 0,.slice none 0 0,.slice none 0 0,.slice none 0 0,.slice none 0 0,.slice none 0 0] 65))=wB at *;go_simp
  try rw[hwb]
  clear hwb;refine uN hK ?_ (fun hS1=>?_)
  ·exact HKP.out _ H_6.out.bel
  clear hK K hS0;refine pN 2 (fun K hK=>?_);go_simp;go_wp2_with (go_at_call 45;refine(vEz x.zB _ _ HSS.out (GS.out _ (yQ HBa.out HBa.out.size H_6.out.bel))).mono ?_;rintro e wS ⟨v1,v2,v3,v4,v5,F,rfl,hN⟩)
  obtain⟨⟨A1,L1,C1,rfl⟩,⟨A2,L2,C2,rfl⟩,⟨A3,L3,C3,rfl⟩,⟨A4,L4,C4,rfl⟩,⟨A5,L5,C5,rfl⟩⟩:=xS.sl5 (T.ows_rds _ _ _ hN.ows);have H_7:=xN (H_6.out.addSes hN);clear hN;refine uN hK ?_ (fun hS2=>?_)
  ·exact HKP.out _ H_7.out.bel
  clear hK K hS1;refine pN 5 (fun K hK=>?_);go_simp;go_wp2_with (go_at_call 112;refine(yFz _ x.yF _ (Rd.below R6.out (yQ HBa.out HBa.out.size H_7.out.bel)) HML.out).mono ?_;rintro e wM ⟨vm,rfl,ho,hb⟩)
  obtain⟨A6,L6,C6,rfl⟩:=T.xE (T.ow_ints.2 ⟨ho.more (Nat.zero_le _),rfl⟩);have H_8:=xN (H_7.out.addMix ho hb);clear ho hb;refine uN hK ?_ (fun hS3=>?_)
  ·exact HKP.out _ H_8.out.bel
  clear hK K hS2;refine zN 6 hS3 ?_;refine vJ (i:=8) (o:=_) (by kernel_rfl) rfl (by kernel_rfl) (by decide) ?_;have hm0:=H_8.out.fin0;have cG:=hm0.box.cell;have fG:=hm0.box.free;have lG:=hm0.box.lt;have HF:=xN hm0;clear hm0;go_wp2;exact HREST.out _ _ _ _ _ _ _ _ _ _ _ _ _ _ _ _ _ _ _ _ _ _ _ _ _ _ F _ HF.out.fill
end
end Go.Proofs.YtoibekfhepnedaaGreat
