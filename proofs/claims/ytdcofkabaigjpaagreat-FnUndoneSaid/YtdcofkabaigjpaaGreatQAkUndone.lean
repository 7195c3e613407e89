/- Regions that draw their order and end in some operations, each behind all others, that store over cells which the region has loaded. No program is named here. Playing a patch stays within samples; states after some nodes. Contract: what a node without state gives out, by the program. Contract: the next state of a node, by the reference. Contract: a node's output and next state, by the program. The mix of a session, in plain words. Edits, in plain words. Edits taken back, in plain words. The range of an edit, in plain words. Contracts: states and what rings, by the program. -/
import Derived.Test.YtdcofkabaigjpaaGreatQAcUndone
import Derived.Deep.RegionHeldLaw
import Derived.Deep.Quiet
import Derived.StillTail
import Derived.Test.YtdcofkabaigjpaaGreatQAjUndone
import Derived.Test.YtdcofkabaigjpaaGreatQAdUndone
import Derived.Test.YtdcofkabaigjpaaGreatQAbUndone
set_option linter.unusedVariables false
set_option linter.unusedSimpArgs false

namespace Go.Proofs.YtdcofkabaigjpaaGreat
section
open Go.RowKit
section
variable {P:Program} {ops:Array Oper} {Q:Exit→Act→World→Prop} {md:Region.Mode} {S:World→Prop} {n:List Nat}
def vP (P:Program) (md:Region.Mode) (ops:Array Oper) (Q:Exit→Act→World→Prop) (S:World→Prop) (n:List Nat):Nat→Array Bool→Act→World→Prop
 |0,listed,a,w=>Region.ready md ops listed= []∧Q .normal a w
 |fuel+1,listed,a,w=>
  (Region.ready md ops listed= []→Q .normal a w)∧
  ∀ i ∈ Region.ready md ops listed,wpOp P ops Q i (fun a' w'=>(i ∈ n∨S w')∧vP P md ops Q S n fuel (listed.setIfInBounds i true) a' w') a w
theorem wpAny_of_N: ∀ (fuel:Nat) (listed:Array Bool) (a:Act) (w:World),vP P md ops Q S n fuel listed a w→wpAny P md ops Q fuel listed a w
 |0,_,_,_,h=>h
 |fuel+1,_,_,_,h=>⟨h.1,fun i hi=>wpOp_mono (fun a' w' h'=>wpAny_of_N fuel _ a' w' h'.2) (h.2 i hi)⟩
def closedB (md:Region.Mode) (ops:Array Oper) (listed:Array Bool):Bool:=(List.range ops.size).all fun j=> !(listed.getD j true) || ((ops[j]?).map fun o=>o.after.all fun e=> !(Region.binds md e) || listed.getD e.on true).getD true
def Closed (md:Region.Mode) (ops:Array Oper) (listed:Array Bool):Prop:= ∀ (j:Nat) (o:Oper),ops[j]?=some o→listed.getD j true=true→ ∀ e ∈ o.after,Region.binds md e=true→listed.getD e.on true=true
theorem closed_of {listed:Array Bool} (h:closedB md ops listed=true):Closed md ops listed:=by
 intro j o ho hl e he hb;unfold closedB at h;have hj:j<ops.size:=(Array.getElem?_eq_some_iff.1 ho).1;have h1:=List.all_eq_true.1 h j (List.mem_range.2 hj);rw[hl,ho] at h1;simp only[Bool.not_true,Bool.false_or,Option.map_some,Option.getD_some] at h1;have h2:=(Array.all_eq_true'.1 h1) e he;rw[hb] at h2
 simpa using h2
def uZ (md:Region.Mode) (ops:Array Oper):Nat→Nat→Nat→Bool
 |0,_,_=>false
 |f+1,m,i=>((ops[m]?).map fun o=>o.after.any fun e=>Region.binds md e && (e.on == i || uZ md ops f e.on i)).getD false
theorem xVz {f m i:Nat} (h:uZ md ops (f+1) m i=true): ∃ o,ops[m]?=some o∧ ∃ e ∈ o.after,Region.binds md e=true∧(e.on=i∨uZ md ops f e.on i=true):=by
 unfold uZ at h
 cases ho:ops[m]? with
 |none=>rw[ho] at h;simp at h
 |some o=>
  rw[ho] at h;simp only[Option.map_some,Option.getD_some] at h;obtain⟨e,he,h2⟩:=Array.any_eq_true'.1 h;simp only[Bool.and_eq_true,Bool.or_eq_true,beq_iff_eq] at h2;exact⟨o,rfl,e,he,h2.1,h2.2⟩
theorem waitsT_mono: ∀ (f m i:Nat),uZ md ops f m i=true→uZ md ops (f+1) m i=true
 |0,_,_,h=>by simp[uZ] at h
 |f+1,m,i,h=>by
  obtain⟨o,ho,e,he,hb,h2⟩:=xVz h;unfold uZ;rw[ho];simp only[Option.map_some,Option.getD_some];refine Array.any_eq_true'.2 ⟨e,he,?_⟩;simp only[Bool.and_eq_true,Bool.or_eq_true,beq_iff_eq];exact⟨hb,h2.imp id (fun h3=>waitsT_mono f _ _ h3)⟩
def xGz (md:Region.Mode) (ops:Array Oper) (i:Nat):Nat→List Bool
 |0=> []
 |k+1=>xGz md ops i k++ [((ops[k]?).map fun o=>o.after.any fun e=>Region.binds md e && (e.on == i || (xGz md ops i k).getD e.on false)).getD false]
theorem zCz {i:Nat} : ∀ k,(xGz md ops i k).length=k
 |0=>rfl
 |k+1=>by simp[xGz,zCz k]
theorem xWz {i:Nat} : ∀ (k j:Nat),(xGz md ops i k).getD j false=true→uZ md ops k j i=true
 |0,j,h=>by simp[xGz] at h
 |k+1,j,h=>by
  unfold xGz at h;rw[List.getD_eq_getElem?_getD] at h;by_cases hj:j<k
  ·rw[List.getElem?_append_left (by rw[zCz];exact hj),←List.getD_eq_getElem?_getD] at h
   exact waitsT_mono _ _ _ (xWz k j h)
  ·by_cases e:j=k
   ·subst e
    rw[List.getElem?_append_right (by rw[zCz];exact zJ),zCz,Nat.sub_self] at h;unfold uZ
    cases ho:ops[j]? with
    |none=>rw[ho] at h;simp at h
    |some o=>
     rw[ho] at h;simp only[Option.map_some,Option.getD_some,List.getElem?_cons_zero] at h ⊢;obtain⟨e,he,h2⟩:=Array.any_eq_true'.1 h;refine Array.any_eq_true'.2 ⟨e,he,?_⟩;simp only[Bool.and_eq_true,Bool.or_eq_true,beq_iff_eq] at h2 ⊢;exact⟨h2.1,h2.2.imp id (fun h3=>xWz j _ h3)⟩
   ·rw[List.getElem?_eq_none (by rw[List.length_append,zCz];simp;omega)] at h
    cases h
theorem wLz {listed:Array Bool} (hc:Closed md ops listed): ∀ (f j i:Nat),listed.getD j true=true→uZ md ops f j i=true→listed.getD i true=true
 |0,_,_,_,h=>by simp[uZ] at h
 |f+1,j,i,hl,h=>by
  obtain⟨o,ho,e,he,hb,h2⟩:=xVz h;have h3:=hc j o ho hl e he hb
  rcases h2 with rfl|h2
  ·exact h3
  ·exact wLz hc f e.on i h3 h2
theorem waitsT_ready {listed:Array Bool} (hc:Closed md ops listed) {f j i:Nat} (hr:j ∈ Region.ready md ops listed) (h:uZ md ops f j i=true):listed.getD i true=true:=by
 cases f with
 |zero=>simp[uZ] at h
 |succ f=>
  obtain⟨o,ho,e,he,hb,h2⟩:=xVz h;obtain⟨_,o',ho',hall⟩:=mem_ready.1 hr;obtain rfl:o=o':=Option.some.inj (ho.symm.trans ho');have h1:=hall e he hb
  have h3:listed.getD e.on true=true:=by
   cases hg:listed.getD e.on true with
   |true=>rfl
   |false=>rw[getD_both hg] at h1;cases h1
  rcases h2 with rfl|h2
  ·exact h3
  ·exact wLz hc f e.on i h3 h2
theorem Closed.set_ {listed:Array Bool} (hc:Closed md ops listed) {j:Nat} (hr:j ∈ Region.ready md ops listed):Closed md ops (listed.setIfInBounds j true):=by
 have up: ∀ k,listed.getD k true=true→(listed.setIfInBounds j true).getD k true=true:=fun k hk=>by
  by_cases e:j=k
  ·subst e
   cases hq:(listed.setIfInBounds j true).getD j true with
   |true=>rfl
   |false=>
    have hlt:j<listed.size:=Nat.lt_of_not_le fun hn=>by
     rw[Array.getD_eq_getD_getElem?,Array.getElem?_eq_none (by simpa using hn)] at hq
     cases hq
    rw[Array.getD_eq_getD_getElem?,Array.getElem?_setIfInBounds_self_of_lt hlt] at hq
    cases hq
  ·rw[getD_set_ne true e];exact hk
 intro k o ho hl e he hb;by_cases hk:j=k
 ·subst hk
  obtain⟨_,o',ho',hall⟩:=mem_ready.1 hr;obtain rfl:o=o':=Option.some.inj (ho.symm.trans ho');have h1:=hall e he hb;refine up _ ?_
  cases hg:listed.getD e.on true with
  |true=>rfl
  |false=>rw[getD_both hg] at h1;cases h1
 ·rw[getD_set_ne true hk] at hl
  exact up _ (hc k o ho hl e he hb)
theorem wpAnyN_first {i:Nat} {oi:Oper} {v:Value} (f:Nat) (hn:(n.all fun m=>uZ md ops f m i)=true) (hi:ops[i]?=some oi) (hsel: ∀ (j:Nat) (o:Oper) cs b,ops[j]?=some o→o.op≠ .select cs b)
  (hQ: ∀ c a w,Q (.panic c) (a.put oi.dst v) w→Q (.panic c) a w):
  ∀ (fuel:Nat) (listed:Array Bool) (a:Act) (w:World),
   (∀ j oj,ops[j]?=some oj→j≠i→listed.getD j true=false→(∀ e ∈ oj.after,Region.binds md e=true→e.on≠i)→oi.apart ops oj=true)→
   Closed md ops listed→i ∈ Region.ready md ops listed→YieldsIf P ops S oi v a→S w→
   vP P md ops Q S n fuel (listed.setIfInBounds i true) (a.put oi.dst v) w→vP P md ops Q S n (fuel+1) listed a w:=by
 have late: ∀ {listed:Array Bool} {j:Nat},Closed md ops listed→i ∈ Region.ready md ops listed→j ∈ Region.ready md ops listed→j ∉ n:=by
  intro listed j hc hr hj e;have h1:=waitsT_ready hc hj (List.all_eq_true.1 hn j e);rw[(mem_ready.1 hr).1] at h1
  cases h1
 intro fuel
 induction fuel with
 |zero=>
  intro listed a w _ hc hr hy hS H;refine⟨fun h=>(by rw[h] at hr;cases hr),fun j hj=>?_⟩;by_cases hji:j=i
  ·subst hji;exact hy.wpOp hi hS ⟨.inr hS,H⟩
  ·have:=ready_mono hj hji
   rw[H.1] at this
   cases this
 |succ fuel ih=>
  intro listed a w hfree hc hr hy hS H;refine⟨fun h=>(by rw[h] at hr;cases hr),fun j hj=>?_⟩;by_cases hji:j=i
  ·subst hji;exact hy.wpOp hi hS ⟨.inr hS,H⟩
  ·have h1:=H.2 j (ready_mono hj hji)
   obtain⟨hjun,oj,hoj,hall⟩:=mem_ready.1 hj;have hun:=(mem_ready.1 hr).1
   have hnot: ∀ e ∈ oj.after,Region.binds md e=true→e.on≠i:=fun e he hb heq=>by
    have h1:=hall e he hb;rw[heq,getD_both hun] at h1
    cases h1
   have h2:=wpOp_putIf hoj (hfree j oj hoj hji hjun hnot) (fun cs b=>hsel i oi cs b hi) (fun cs b=>hsel j oj cs b hoj) hQ hy h1
   have hfree': ∀ k ok,ops[k]?=some ok→k≠i→(listed.setIfInBounds j true).getD k true=false→
     (∀ e ∈ ok.after,Region.binds md e=true→e.on≠i)→oi.apart ops ok=true:=fun k ok hk hki hun hno=>by
    refine hfree k ok hk hki ?_ hno;by_cases hjk:j=k
    ·subst hjk;exact hjun
    ·rw[getD_set_ne true hjk] at hun;exact hun
   have hjn:=late hc hr hj;refine wpOp_mono (fun a' w' h3=>?_) h2;have hS':S w':=h3.2.1.resolve_left hjn;refine⟨.inr hS',ih (listed.setIfInBounds j true) a' w' hfree' (hc.set_ hj) (ready_mono hr (Ne.symm hji)) h3.1 hS' ?_⟩;rw[Array.setIfInBounds_comm _ _ hji];exact h3.2.2
theorem wpAnyN_firstT {i:Nat} {oi:Oper} {v:Value} (hn:i ∈ n) (hi:ops[i]?=some oi) (hsel: ∀ (j:Nat) (o:Oper) cs b,ops[j]?=some o→o.op≠ .select cs b)
  (hQ: ∀ c a w,Q (.panic c) (a.put oi.dst v) w→Q (.panic c) a w):
  ∀ (fuel:Nat) (listed:Array Bool) (a:Act) (w:World),
   (∀ j oj,ops[j]?=some oj→j≠i→listed.getD j true=false→(∀ e ∈ oj.after,Region.binds md e=true→e.on≠i)→oi.apart ops oj=true)→
   i ∈ Region.ready md ops listed→YieldsIf P ops (fun _=>True) oi v a→
   vP P md ops Q S n fuel (listed.setIfInBounds i true) (a.put oi.dst v) w→vP P md ops Q S n (fuel+1) listed a w:=by
 intro fuel
 induction fuel with
 |zero=>
  intro listed a w _ hr hy H;refine⟨fun h=>(by rw[h] at hr;cases hr),fun j hj=>?_⟩;by_cases hji:j=i
  ·subst hji;exact hy.wpOp hi trivial ⟨.inl hn,H⟩
  ·have:=ready_mono hj hji
   rw[H.1] at this
   cases this
 |succ fuel ih=>
  intro listed a w hfree hr hy H;refine⟨fun h=>(by rw[h] at hr;cases hr),fun j hj=>?_⟩;by_cases hji:j=i
  ·subst hji;exact hy.wpOp hi trivial ⟨.inl hn,H⟩
  ·have h1:=H.2 j (ready_mono hj hji)
   obtain⟨hjun,oj,hoj,hall⟩:=mem_ready.1 hj;have hun:=(mem_ready.1 hr).1
   have hnot: ∀ e ∈ oj.after,Region.binds md e=true→e.on≠i:=fun e he hb heq=>by
    have h1:=hall e he hb;rw[heq,getD_both hun] at h1
    cases h1
   have h2:=wpOp_putIf hoj (hfree j oj hoj hji hjun hnot) (fun cs b=>hsel i oi cs b hi) (fun cs b=>hsel j oj cs b hoj) hQ hy h1
   have hfree': ∀ k ok,ops[k]?=some ok→k≠i→(listed.setIfInBounds j true).getD k true=false→
     (∀ e ∈ ok.after,Region.binds md e=true→e.on≠i)→oi.apart ops ok=true:=fun k ok hk hki hun hno=>by
    refine hfree k ok hk hki ?_ hno;by_cases hjk:j=k
    ·subst hjk;exact hjun
    ·rw[getD_set_ne true hjk] at hun;exact hun
   refine wpOp_mono (fun a' w' h3=>?_) h2;refine⟨h3.2.1,ih (listed.setIfInBounds j true) a' w' hfree' (ready_mono hr (Ne.symm hji)) h3.1 ?_⟩;rw[Array.setIfInBounds_comm _ _ hji];exact h3.2.2
theorem wpAnyN_take {i:Nat} {oi:Oper} {v:Value} {fuel:Nat} {listed:Array Bool} {a:Act} {w:World} (f:Nat) (hn:(n.all fun m=>uZ md ops f m i)=true) (hcl:closedB md ops listed=true) (hi:ops[i]?=some oi)
  (hs:Region.noSelect ops=true) (hf:Region.free md ops listed i=true) (hr:(Region.ready md ops listed).contains i=true)
  (hQ: ∀ c a w,Q (.panic c) (a.put oi.dst v) w→Q (.panic c) a w) (hS:S w) (hw:Region.wanted oi (yielded ops a.tmps)=true) (hy: ∀ w,S w→(execOp a.eval oi).run P w= .ok (.value v) w)
  (h:vP P md ops Q S n fuel (listed.setIfInBounds i true) (a.put oi.dst v) w):vP P md ops Q S n (fuel+1) listed a w:=
 wpAnyN_first f hn hi (Region.noSelect_spec hs) hQ fuel listed a w (Region.free_spec hi hf) (closed_of hcl) (by simpa using hr) (.inl ⟨hw,hy⟩) hS h
theorem vH {i:Nat} {oi:Oper} {v:Value} {fuel:Nat} {listed:Array Bool} {a:Act} {w:World} (hn:i ∈ n) (hi:ops[i]?=some oi)
  (hs:Region.noSelect ops=true) (hf:Region.free md ops listed i=true) (hr:(Region.ready md ops listed).contains i=true)
  (hQ: ∀ c a w,Q (.panic c) (a.put oi.dst v) w→Q (.panic c) a w) (hw:Region.wanted oi (yielded ops a.tmps)=true) (hy: ∀ w,(execOp a.eval oi).run P w= .ok (.value v) w)
  (h:vP P md ops Q S n fuel (listed.setIfInBounds i true) (a.put oi.dst v) w):vP P md ops Q S n (fuel+1) listed a w:=
 wpAnyN_firstT hn hi (Region.noSelect_spec hs) hQ fuel listed a w (Region.free_spec hi hf) (by simpa using hr) (.inl ⟨hw,fun w _=>hy w⟩) h
theorem wpAnyN_takeL {i:Nat} {oi:Oper} {v:Value} {fuel:Nat} {listed:Array Bool} {a:Act} {w:World} (hn:(n.all fun m=>(xGz md ops i ops.size).getD m false)=true) (hcl:closedB md ops listed=true) (hi:ops[i]?=some oi)
  (hs:Region.noSelect ops=true) (hf:Region.free md ops listed i=true) (hr:(Region.ready md ops listed).contains i=true)
  (hQ: ∀ c a w,Q (.panic c) (a.put oi.dst v) w→Q (.panic c) a w) (hS:S w) (hw:Region.wanted oi (yielded ops a.tmps)=true) (hy: ∀ w,S w→(execOp a.eval oi).run P w= .ok (.value v) w)
  (h:vP P md ops Q S n fuel (listed.setIfInBounds i true) (a.put oi.dst v) w):vP P md ops Q S n (fuel+1) listed a w:=
 wpAnyN_take ops.size (List.all_eq_true.2 fun m hm=>xWz _ _ (List.all_eq_true.1 hn m hm)) hcl hi hs hf hr hQ hS hw hy h
theorem wpAnyN_end {fuel:Nat} {listed:Array Bool} {a:Act} {w:World} (hr:Region.ready md ops listed= []) (h:Q .normal a w):vP P md ops Q S n fuel listed a w:=by
 cases fuel with
 |zero=>exact⟨hr,h⟩
 |succ f=>exact⟨fun _=>h,by rw[hr];simp⟩
theorem wpAnyN_one {i:Nat} {o:Oper} {fuel:Nat} {listed:Array Bool} {a:Act} {w:World} (hr:Region.ready md ops listed= [i]) (ho:ops[i]?=some o)
  (h: ∀ K':Act→World→Prop,Shut (∀ a w,S w→(S w→vP P md ops Q S n fuel (listed.setIfInBounds i true) a w)→K' a w)→if Region.wanted o (yielded ops a.tmps)=true then Oper.wp P o a w K' Q else K' (a.put o.dst undef) w):
  vP P md ops Q S n (fuel+1) listed a w:=
 ⟨fun h0=>(by rw[hr] at h0;cases h0),fun j hj=>by
  rw[hr,List.mem_singleton] at hj;subst hj;exact wpOp_step ho (fun K' hK=>h K' (fun a w hS hW=>hK a w ⟨.inr hS,hW hS⟩))⟩
theorem wpAnyN_tail2 {i j:Nat} {o o2:Oper} {fuel:Nat} {listed:Array Bool} {a:Act} {w:World} (hr:Region.ready md ops listed= [i]) (ho:ops[i]?=some o) (hr2:Region.ready md ops (listed.setIfInBounds i true)= [j]) (ho2:ops[j]?=some o2)
  (hr3:Region.ready md ops ((listed.setIfInBounds i true).setIfInBounds j true)= []) (hi:i ∈ n) (hj:j ∈ n) (h:wpList P ops Q [o,o2] a w):vP P md ops Q S n (fuel+2) listed a w:=
 ⟨fun h0=>(by rw[hr] at h0;cases h0),fun k hk=>by
  rw[hr,List.mem_singleton] at hk;subst hk;have hw:wpOp P ops Q k (wpList P ops Q [o2]) a w:=by unfold wpOp;simp only[ho];exact h
  refine wpOp_mono (fun a' w' h'=>⟨.inl hi,⟨fun h0=>(by rw[hr2] at h0;cases h0),fun k2 hk2=>?_⟩⟩) hw;rw[hr2,List.mem_singleton] at hk2;subst hk2;have hw2:wpOp P ops Q k2 (wpList P ops Q []) a' w':=by unfold wpOp;simp only[ho2];exact h'
  refine wpOp_mono (fun a'' w'' h''=>⟨.inl hj,?_⟩) hw2;have h'':Q .normal a'' w'':=h''
  cases fuel with
  |zero=>exact⟨hr3,h''⟩
  |succ f=>exact⟨fun _=>h'',by rw[hr3];simp⟩⟩
theorem wM {id:Nat} {a:Act} {w:World} (S:World→Prop) (n:List Nat) (hm:P.follows .mixedOrders=true) (hS:S w.drew)
  (h:S w.drew→vP P .any ops Q S n ops.size (Array.replicate ops.size false) a w.drew):(Code.region id ops true).wp P Q a w:=
 wp_region_any hm (wpAny_of_N _ _ _ _ (h hS))
end
theorem zN {P:Program} {md:Region.Mode} {ops:Array Oper} {Q:Exit→Act→World→Prop} {S:World→Prop} {n:List Nat} (i:Nat) {oi:Oper} {v:Value} {fuel:Nat} {listed:Array Bool} {a b:Act} {w:World} (hS:S w)
  (h:vP P md ops Q S n fuel (listed.setIfInBounds i true) b w)
  (hi:ops[i]?=some oi:=by rfl)
  (hc:((n.all fun m=>(xGz md ops i ops.size).getD m false) && closedB md ops listed && Region.noSelect ops && Region.free md ops listed i && (Region.ready md ops listed).contains i)=true:=by kernel_rfl)
  (hQ: ∀ c a w,Q (.panic c) (a.put oi.dst v) w→Q (.panic c) a w:=by exact fun _ _ _ h=>h)
  (hw:Region.wanted oi (yielded ops a.tmps)=true:=by rfl)
  (hy: ∀ w,S w→(execOp a.eval oi).run P w= .ok (.value v) w:=by(intro w hSw;(try dsimp only at hSw);first|(go_simp;done)|(go_simp;with_reducible rfl)))
  (hb:a.put oi.dst v=b:=by(simp only[Act.put,List.setIfInBounds_toArray,List.set_cons_zero,List.set_cons_succ];try with_reducible rfl)):vP P md ops Q S n (fuel+1) listed a w:=by
 subst hb;simp only[Bool.and_eq_true] at hc;obtain⟨⟨⟨⟨h1,h2⟩,h3⟩,h4⟩,h5⟩:=hc;exact wpAnyN_takeL h1 h2 hi h3 h4 h5 hQ hS hw hy h
theorem qN {P:Program} {md:Region.Mode} {ops:Array Oper} {Q:Exit→Act→World→Prop} {S:World→Prop} {n:List Nat} {fuel:Nat} {listed:Array Bool} {a:Act} {w:World} (h:Q .normal a w) (hr:Region.ready md ops listed= []:=by kernel_rfl):vP P md ops Q S n fuel listed a w:=wpAnyN_end hr h
theorem q2N {P:Program} {md:Region.Mode} {ops:Array Oper} {Q:Exit→Act→World→Prop} {S:World→Prop} {n:List Nat} (i j:Nat) {o o2:Oper} {fuel:Nat} {listed:Array Bool} {a:Act} {w:World} (h:wpList P ops Q [o,o2] a w)
  (hr:Region.ready md ops listed= [i]:=by kernel_rfl) (ho:ops[i]?=some o:=by rfl) (hr2:Region.ready md ops (listed.setIfInBounds i true)= [j]:=by kernel_rfl) (ho2:ops[j]?=some o2:=by rfl)
  (hr3:Region.ready md ops ((listed.setIfInBounds i true).setIfInBounds j true)= []:=by kernel_rfl) (hi:i ∈ n:=by decide) (hj:j ∈ n:=by decide):vP P md ops Q S n (fuel+2) listed a w:=wpAnyN_tail2 hr ho hr2 ho2 hr3 hi hj h
theorem pN {P:Program} {md:Region.Mode} {ops:Array Oper} {Q:Exit→Act→World→Prop} {S:World→Prop} {n:List Nat} (i:Nat) {o:Oper} {fuel:Nat} {listed:Array Bool} {a:Act} {w:World}
  (h: ∀ K':Act→World→Prop,Shut (∀ a w,S w→(S w→vP P md ops Q S n fuel (listed.setIfInBounds i true) a w)→K' a w)→if Region.wanted o (yielded ops a.tmps)=true then Oper.wp P o a w K' Q else K' (a.put o.dst undef) w)
  (hr:Region.ready md ops listed= [i]:=by kernel_rfl) (ho:ops[i]?=some o:=by rfl):vP P md ops Q S n (fuel+1) listed a w:=wpAnyN_one hr ho h
theorem uN {S:World→Prop} {R K:Act→World→Prop} {a b:Act} {w:World} (hK:Shut (∀ a w,S w→(S w→R a w)→K a w)) (hS:S w) (h:S w→R b w)
  (hb:a=b:=by(try simp only[Act.put,List.setIfInBounds_toArray,List.set_cons_zero,List.set_cons_succ]);try with_reducible rfl):K a w:=by
 subst hb;exact hK.out a w hS h
end
section
open Go.RowKit
theorem smp_zero:Smp 0:=⟨by decide,by decide⟩
end
section
open Go.RowKit
end
section
open Go.RowKit
theorem lit1 (w:World) (n:Int):OwI 2 (w.alloc (.cells #[.int .i64 n] 2)) w.heap.size (.slice (some ⟨w.heap.size,0,none⟩) 1 1) [n]:=World.ownsRow_lit (base:=w.heap.size) (e:=2) (size:=1) w #[.int .i64 n] 1 zJ (by decide) rfl
theorem zKz {w:World} {ops:Array Oper} {o:Oper} {a:Act} {K:Act→World→Prop} {Q:Exit→Act→World→Prop} {E:Prop} (hgd:o.guard=none) (s x:Operand)
  (ho:o.op= .call { callee:= .builtin .append,args:= #[s,x],argTypes:= #[26,26] }) {B:Nat} {v:Value} {xs:List Int} (hs:a.eval s=v) (hown:OwI 2 w B v xs)
  {y:Value} {ys:List Int} (hx:a.eval x=y) (hr:RdI w y ys) (hl:xs.length+ys.length≤8796093022208) (hB:B≤w.heap.size)
  (h: ∀ v' w',OwI 2 w' B v' (xs++ys)→w.grownBy w' v.ownBlock→(∀ k,v'.ownBlock=some k→v.ownBlock=some k∨w.heap.size≤k)→K (a.put o.dst v') w'):
  if Region.wanted o (yielded ops a.tmps)=true then Oper.wp Tryz.prog o a w K Q else E:=
 xDz hgd s x _ ho B _ _ 1 8 Tryz.underlying26 info_i64 rfl zM v xs.length _ hs hown y ys.length _ hx hr (fun u hu=>by obtain⟨n,_,rfl⟩:=List.mem_map.1 hu;rfl) zM (by unfold maxLen;omega) hB
  fun v' w' h1 h2 h3=>h v' w' (by unfold OwI;simpa using h1) h2 h3
theorem wTz {P:Program} {ops:Array Oper} {Q:Exit→Act→World→Prop} {md:Region.Mode} {S:World→Prop} {n:List Nat} {i j:Nat} {o o2:Oper} {fuel:Nat} {listed:Array Bool} {a:Act} {w:World} (hr:Region.ready md ops listed= [i,j]) (ho:ops[i]?=some o) (ho2:ops[j]?=some o2)
  (h: ∀ K':Act→World→Prop,Shut (∀ a w,S w→(S w→vP P md ops Q S n fuel (listed.setIfInBounds i true) a w)→K' a w)→if Region.wanted o (yielded ops a.tmps)=true then Oper.wp P o a w K' Q else K' (a.put o.dst undef) w)
  (h2: ∀ K':Act→World→Prop,Shut (∀ a w,S w→(S w→vP P md ops Q S n fuel (listed.setIfInBounds j true) a w)→K' a w)→if Region.wanted o2 (yielded ops a.tmps)=true then Oper.wp P o2 a w K' Q else K' (a.put o2.dst undef) w):
  vP P md ops Q S n (fuel+1) listed a w:=
 ⟨fun h0=>(by rw[h0] at hr;cases hr),fun q hq=>by
  rw[hr,List.mem_cons,List.mem_singleton] at hq
  rcases hq with rfl|rfl
  ·exact wpOp_step ho (fun K' hK=>h K' (fun a w hS hW=>hK a w ⟨.inr hS,hW hS⟩))
  ·exact wpOp_step ho2 (fun K' hK=>h2 K' (fun a w hS hW=>hK a w ⟨.inr hS,hW hS⟩))⟩
end
section
open Go.RowKit
end
section
open Go.RowKit
end
section
open Go.RowKit
def zAz:xR:=⟨0,0,0,0,0⟩
def wN:xM:=⟨0,[],[],[],[],⟨[]⟩⟩
def wK (e:xS):Prop:=
 if e.zC=1∨e.zC=3 then e.yD=0∧zMz e.zY
 else if e.zC=2 then e.yD=0∧e.zY=zAz
 else if e.zC=4 then e.yF=0∧e.zY=zAz
 else if e.zC=5 then e.zY=zAz
 else False
def vO (s:xM) (t:Int):List xR:=((s.zB[t.toNat]?).map xN.zL).getD []
def zPz (s:xM) (t:Int):List xV:=((s.zI.zF[t.toNat]?).map xO.zV).getD []
theorem wS {s:xM} {k:Nat} {x:xN} (h:s.zB[k]?=some x):vO s (k:Int)=x.zL:=by
 unfold vO;rw[Int.toNat_natCast,h];rfl
theorem zXz {s:xM} {k:Nat} {x:xO} (h:s.zI.zF[k]?=some x):zPz s (k:Int)=x.zV:=by
 unfold zPz;rw[Int.toNat_natCast,h];rfl
def wG (s:xM) (e:xS):Prop:=
 if e.zC=5 then inB e.yB 0 ((s.zI.zF.length:Int) - 1)=true∧inB e.yF 0 (((zPz s e.yB).length:Int) - 1)=true∧Smp e.yD
 else inB e.yB 0 ((s.zB.length:Int) - 1)=true∧
  (if e.zC=1 then inB e.yF 0 ((vO s e.yB).length:Int)=true∧e.zY.zX<(s.zD.length:Int)
  else if e.zC=3 then inB e.yF 0 (((vO s e.yB).length:Int) - 1)=true∧e.zY.zX<(s.zD.length:Int)
  else if e.zC=2 then inB e.yF 0 (((vO s e.yB).length:Int) - 1)=true
  else inB e.yD 0 ((s.zI.zF.length:Int) - 1)=true)
def xY (l:List xR) (e:xS):List xR:=
 if e.zC=1 then l.take e.yF.toNat++e.zY :: l.drop e.yF.toNat
 else if e.zC=2 then l.take e.yF.toNat++l.drop (e.yF.toNat+1)
 else l.take e.yF.toNat++e.zY :: l.drop (e.yF.toNat+1)
def wQ {α:Type} (l:List α) (k:Nat) (f:α→α):List α:=match l[k]? with|some x=>l.set k (f x)|none=>l
theorem yIz {α:Type} {l:List α} {k:Nat} {f:α→α} {x:α} (h:l[k]?=some x):wQ l k f=l.set k (f x):=by unfold wQ;rw[h]
theorem wR {α:Type} (l:List α) (k:Nat) (f:α→α):(wQ l k f).length=l.length:=by
 unfold wQ
 split<;>simp
theorem uK {α:Type} {l:List α} {k:Nat} {f:α→α} {i:Nat} :(wQ l k f)[i]?=(l[i]?).map (fun x=>if i=k then f x else x):=by
 unfold wQ
 split
 ·next x h=>
  by_cases e:i=k
  ·subst e
   rw[List.getElem?_set_self (List.getElem?_eq_some_iff.1 h).1,h];simp
  ·rw[List.getElem?_set_ne (fun h=>e h.symm)]
   cases l[i]?<;>simp[e]
 ·next h=>
  by_cases e:i=k
  ·subst e;rw[h];rfl
  ·cases l[i]?<;>simp[e]
def doE (s:xM) (e:xS):xM:=
 if e.zC=4 then { s with zO:=s.zO.set e.yB.toNat e.yD }
 else if e.zC=5 then { s with zI:=⟨wQ s.zI.zF e.yB.toNat fun x=> { x with zV:=wQ x.zV e.yF.toNat fun y=> { y with zZ:=e.yD } }⟩ }
 else { s with zB:=wQ s.zB e.yB.toNat fun x=>⟨xY x.zL e⟩ }
noncomputable def wF (s:xM) (e:xS):xM × Int:=
 if tf (xW s∧wK e)=true then
  (if tf (wG s e)=true then
   (if e.zC=1∧12≤(vO s e.yB).length then (wN,5)
   else if tf (xW (doE s e))=true then (doE s e,0) else (wN,6))
  else (wN,2))
 else (wN,1)
section
variable {s:xM} {e:xS}
theorem yQz (h:wK e):e.zC=1∨e.zC=2∨e.zC=3∨e.zC=4∨e.zC=5:=by
 unfold wK at h;by_cases h1:e.zC=1
 ·exact .inl h1
 by_cases h2:e.zC=2
 ·exact .inr (.inl h2)
 by_cases h3:e.zC=3
 ·exact .inr (.inr (.inl h3))
 by_cases h4:e.zC=4
 ·exact .inr (.inr (.inr (.inl h4)))
 by_cases h5:e.zC=5
 ·exact .inr (.inr (.inr (.inr h5)))
 ·simp[h1,h2,h3,h4,h5] at h
theorem doE_feed (h:xW s) (hr:wG s e) (hk:e.zC=4):xW (doE s e):=by
 unfold wG at hr;simp only[hk] at hr;have hv:=vJ.1 (show inB e.yD 0 ((s.zI.zF.length:Int) - 1)=true by simpa using hr.2);unfold doE;rw[if_pos hk]
 exact⟨h.length,h.sources,h.few,h.mixer,by simpa using h.feed,fun i x hx=>by
  have hx:(s.zO.set e.yB.toNat e.yD)[i]?=some x:=hx;rw[List.getElem?_set] at hx
  split at hx
  ·split at hx
   ·injection hx with hx;subst hx;exact⟨hv.1,by show e.yD≤(s.zI.zF.length:Int) - 1;omega⟩
   ·cases hx
  ·exact h.feeds i x hx,h.effect,h.tracks,h.effects⟩
theorem befS_turn (l:List xV) (k:Nat) (v strip:Int) (i:Nat):befS (wQ l k fun y=> { y with zZ:=v }) strip i=befS l strip i:=by
 unfold befS
 split
 ·rfl
 ·rw[List.getD_eq_getElem?_getD,List.getD_eq_getElem?_getD,uK]
  cases l[i - 1]? with
  |none=>rfl
  |some y=>
   simp only[Option.map_some,Option.getD_some]
   split<;>rfl
theorem sends_turn {l:List xV} {strip n v:Int} {k:Nat} (h:xAz l strip n) (hv:Smp v):xAz (wQ l k fun y=> { y with zZ:=v }) strip n:=by
 refine⟨fun i x hx=>?_,fun e=>by rw[wR];exact h.last e,fun e=>by rw[wR];exact h.few e⟩
 show inB x.yG (befS (wQ l k fun y=> { y with zZ:=v }) strip i+1) (n - 1)=true∧Smp x.zZ
 rw[befS_turn];rw[uK] at hx
 cases hg:l[i]? with
 |none=>rw[hg] at hx;cases hx
 |some y=>
  rw[hg] at hx;simp only[Option.map_some] at hx;injection hx with hx;have hy:=h.each i y hg;subst hx
  split
  ·exact⟨hy.1,hv⟩
  ·exact hy
theorem doE_send (h:xW s) (hr:wG s e) (hk:e.zC=5):xW (doE s e):=by
 unfold wG at hr;rw[if_pos hk] at hr;have hv:=hr.2.2;unfold doE;rw[if_neg zM,if_pos hk];have hlen:(wQ s.zI.zF e.yB.toNat fun x=> { x with zV:=wQ x.zV e.yF.toNat fun y=> { y with zZ:=e.yD } }).length=s.zI.zF.length:=wR _ _ _;refine⟨h.length,h.sources,h.few,⟨by rw[hlen];exact h.mixer.some_,by rw[hlen];exact h.mixer.few,fun i x hx=>?_⟩,h.feed,by rw[hlen];exact h.feeds,by rw[hlen];exact h.effect,h.tracks,h.effects⟩;rw[hlen];have hx:(wQ s.zI.zF e.yB.toNat fun x=> { x with zV:=wQ x.zV e.yF.toNat fun y=> { y with zZ:=e.yD } })[i]?=some x:=hx;rw[uK] at hx
 cases hg:s.zI.zF[i]? with
 |none=>rw[hg] at hx;cases hx
 |some x0=>
  rw[hg] at hx;simp only[Option.map_some] at hx;injection hx with hx;obtain⟨h1,h2⟩:=h.mixer.each i x0 hg;have hn:x.yC=x0.yC:=by subst hx;split<;>rfl
  refine⟨?_,fun j y hj hy=>?_⟩
  ·subst hx
   split
   ·exact⟨h1.name,h1.latency,sends_turn h1.sends hv⟩
   ·exact h1
  ·have hy:(wQ s.zI.zF e.yB.toNat fun x=> { x with zV:=wQ x.zV e.yF.toNat fun y=> { y with zZ:=e.yD } })[j]?=some y:=hy
   rw[uK] at hy
   cases hg2:s.zI.zF[j]? with
   |none=>rw[hg2] at hy;cases hy
   |some y0=>
    rw[hg2] at hy;simp only[Option.map_some] at hy;injection hy with hy;have hn2:y.yC=y0.yC:=by subst hy;split<;>rfl
    rw[hn,hn2];exact h2 j y0 hj hg2
theorem editL_mem {l:List xR} {c:xR} (h:c ∈ xY l e):c ∈ l∨(c=e.zY∧e.zC≠2):=by
 unfold xY at h
 split at h
 ·next hk=>
  rcases List.mem_append.1 h with h|h
  ·exact .inl (List.mem_of_mem_take h)
  ·rcases List.mem_cons.1 h with h|h
   ·exact .inr ⟨h,by omega⟩
   ·exact .inl (List.mem_of_mem_drop h)
 ·split at h
  ·rcases List.mem_append.1 h with h|h
   ·exact .inl (List.mem_of_mem_take h)
   ·exact .inl (List.mem_of_mem_drop h)
  ·next h1 h2=>
   rcases List.mem_append.1 h with h|h
   ·exact .inl (List.mem_of_mem_take h)
   ·rcases List.mem_cons.1 h with h|h
    ·exact .inr ⟨h,h2⟩
    ·exact .inl (List.mem_of_mem_drop h)
theorem doE_clips (h:xW s) (hf:wK e) (hr:wG s e) (h4:e.zC≠4) (h5:e.zC≠5) {t:xN} (ht:s.zB[e.yB.toNat]?=some t):
  xW (doE s e)↔uJ ⟨xY t.zL e⟩:=by
 unfold doE;rw[if_neg h4,if_neg h5];have hget: ∀ i,(wQ s.zB e.yB.toNat fun x=>(⟨xY x.zL e⟩:xN))[i]?=(s.zB[i]?).map (fun x=>if i=e.yB.toNat then (⟨xY x.zL e⟩:xN) else x):=fun i=>uK
 constructor
 ·intro g
  have:=g.tracks e.yB.toNat ⟨xY t.zL e⟩ (by
   show (wQ s.zB e.yB.toNat fun x=>(⟨xY x.zL e⟩:xN))[e.yB.toNat]?=_
   rw[hget,ht];simp)
  exact this.1
 ·intro g
  have hs:e.zC≠2→e.zY.zX<(s.zD.length:Int):=by
   intro h2;unfold wG at hr;rw[if_neg h5] at hr;have hr:=hr.2
   rcases yQz hf with k|k|k|k|k
   ·rw[if_pos k] at hr;exact hr.2
   ·exact absurd k h2
   ·rw[if_neg zM,if_pos k] at hr;exact hr.2
   ·exact absurd k h4
   ·exact absurd k h5
  refine⟨h.length,h.sources,by show (wQ s.zB _ _).length≤6;rw[wR];exact h.few,h.mixer,by show s.zO.length=(wQ s.zB _ _).length;rw[wR];exact h.feed,h.feeds,h.effect,fun i x hx=>?_,h.effects⟩;have hx:(wQ s.zB e.yB.toNat fun x=>(⟨xY x.zL e⟩:xN))[i]?=some x:=hx;rw[hget] at hx
  cases hg:s.zB[i]? with
  |none=>rw[hg] at hx;cases hx
  |some x0=>
   rw[hg] at hx;simp only[Option.map_some] at hx;injection hx with hx;obtain⟨h1,h2⟩:=h.tracks i x0 hg;by_cases hi:i=e.yB.toNat
   ·rw[if_pos hi] at hx
    rw[hi] at hg;rw[ht] at hg;injection hg with hg;subst hg hx;refine⟨g,fun j c hc=>?_⟩
    rcases editL_mem (List.mem_of_getElem? hc) with hm|⟨rfl,hk⟩
    ·exact Each.of_mem.1 h2 c hm
    ·exact hs hk
   ·rw[if_neg hi] at hx
    subst hx;exact⟨h1,h2⟩
end
theorem fieldsB_new {e:xS} (h:e.zC=1∨e.zC=3):tf (wK e)=(decide (e.yD=0) && tf (zMz e.zY)):=by
 unfold wK;rw[if_pos h,←yJz,uE]
theorem fieldsB_rem {e:xS} (h:e.zC=2):tf (wK e)=(decide (e.yD=0) && decide (e.zY=zAz)):=by
 unfold wK;rw[if_neg zM,if_pos h,←yJz,uE,uE]
theorem wZz {e:xS} (h:e.zC=4):tf (wK e)=(decide (e.yF=0) && decide (e.zY=zAz)):=by
 unfold wK;rw[if_neg zM,if_neg zM,if_pos h,←yJz,uE,uE]
theorem vAz {e:xS} (h:e.zC=5):tf (wK e)=decide (e.zY=zAz):=by
 unfold wK;rw[if_neg zM,if_neg zM,if_neg zM,if_pos h,uE]
theorem vBz {e:xS} (h: ¬ (e.zC=1∨e.zC=3)) (h2:e.zC≠2) (h4:e.zC≠4) (h5:e.zC≠5):tf (wK e)=false:=by
 unfold wK;rw[if_neg h,if_neg h2,if_neg h4,if_neg h5];exact xE (fun h=>h)
section
variable {s:xM} {e:xS}
theorem rangeB_send (h:e.zC=5):tf (wG s e)=(inB e.yB 0 ((s.zI.zF.length:Int) - 1) && (inB e.yF 0 (((zPz s e.yB).length:Int) - 1) && decide (Smp e.yD))):=by
 unfold wG;rw[if_pos h,←yJz,←yJz,uE,uE,uE];simp
theorem rangeB_out (h:e.zC≠5) (ht:inB e.yB 0 ((s.zB.length:Int) - 1)=false):tf (wG s e)=false:=by
 unfold wG;rw[if_neg h];exact xE (fun k=>by rw[ht] at k;exact absurd k.1 (by simp))
theorem rangeB_ins (h:e.zC=1) (ht:inB e.yB 0 ((s.zB.length:Int) - 1)=true):tf (wG s e)=(inB e.yF 0 ((vO s e.yB).length:Int) && decide (e.zY.zX<(s.zD.length:Int))):=by
 unfold wG;rw[if_neg zM,if_pos h,←yJz,←yJz,uE,uE,uE,ht];simp
theorem rangeB_rep (h:e.zC=3) (ht:inB e.yB 0 ((s.zB.length:Int) - 1)=true):tf (wG s e)=(inB e.yF 0 (((vO s e.yB).length:Int) - 1) && decide (e.zY.zX<(s.zD.length:Int))):=by
 unfold wG;rw[if_neg zM,if_neg zM,if_pos h,←yJz,←yJz,uE,uE,uE,ht];simp
theorem rangeB_rem (h:e.zC=2) (ht:inB e.yB 0 ((s.zB.length:Int) - 1)=true):tf (wG s e)=inB e.yF 0 (((vO s e.yB).length:Int) - 1):=by
 unfold wG;rw[if_neg zM,if_neg zM,if_neg zM,if_pos h,←yJz,uE,uE,ht];simp
theorem rangeB_feed (h5:e.zC≠5) (h1:e.zC≠1) (h2:e.zC≠2) (h3:e.zC≠3) (ht:inB e.yB 0 ((s.zB.length:Int) - 1)=true):tf (wG s e)=inB e.yD 0 ((s.zI.zF.length:Int) - 1):=by
 unfold wG;rw[if_neg h5,if_neg h1,if_neg h3,if_neg h2,←yJz,uE,uE,ht];simp
end
end
section
open Go.RowKit
def yFz (s:xM) (e:xS):xR:=(vO s e.yB).getD e.yF.toNat zAz
def wY (s:xM) (e:xS):xS:=
 if e.zC=1 then { e with zC:=2,zY:=zAz }
 else if e.zC=2 then { e with zC:=1,zY:=yFz s e }
 else if e.zC=3 then { e with zY:=yFz s e }
 else if e.zC=4 then { e with yD:=s.zO.getD e.yB.toNat 0 }
 else { e with yD:=((zPz s e.yB).getD e.yF.toNat ⟨0,0⟩).zZ }
section
variable {s:xM} {e:xS}
theorem wFz (h:(wF s e).2=0):xW s∧wK e∧wG s e∧ ¬ (e.zC=1∧12≤(vO s e.yB).length)∧xW (doE s e)∧(wF s e).1=doE s e:=by
 unfold wF at h ⊢;by_cases h1:tf (xW s∧wK e)=true
 ·rw[if_pos h1] at h ⊢
  by_cases h2:tf (wG s e)=true
  ·rw[if_pos h2] at h ⊢
   by_cases h3:e.zC=1∧12≤(vO s e.yB).length
   ·rw[if_pos h3] at h
    exact absurd h (by decide)
   ·rw[if_neg h3] at h ⊢
    by_cases h4:tf (xW (doE s e))=true
    ·rw[if_pos h4]
     exact⟨(wBz.1 h1).1,(wBz.1 h1).2,wBz.1 h2,h3,wBz.1 h4,rfl⟩
    ·rw[if_neg h4] at h
     exact absurd h (by decide)
  ·rw[if_neg h2] at h
   exact absurd h (by decide)
 ·rw[if_neg h1] at h
  exact absurd h (by decide)
theorem yUz (h1:xW s) (h2:wK e) (h3:wG s e) (h4: ¬ (e.zC=1∧12≤(vO s e.yB).length)) (h5:xW (doE s e)):wF s e=(doE s e,0):=by
 unfold wF;rw[if_pos (xG ⟨h1,h2⟩),if_pos (xG h3),if_neg h4,if_pos (xG h5)]
theorem vQ (h:wG s e) (h5:e.zC≠5): ∃ k t,e.yB=((k:Nat):Int)∧s.zB[k]?=some t:=by
 unfold wG at h;rw[if_neg h5] at h;have:=vJ.1 h.1;refine⟨e.yB.toNat,s.zB[e.yB.toNat]'zM,by omega,gE _⟩
theorem yDz {α:Type} {l:List α} {k:Nat} {f g:α→α} {x:α} (h:l[k]?=some x) (hg:g (f x)=x):wQ (wQ l k f) k g=l:=by
 apply List.ext_getElem?
 intro i;rw[uK,uK]
 cases hi:l[i]? with
 |none=>rfl
 |some y=>
  simp only[Option.map_some];by_cases e:i=k
  ·subst e
   rw[h] at hi;injection hi with hi;subst hi;rw[if_pos rfl,if_pos rfl,hg]
  ·rw[if_neg e,if_neg e]
theorem cut_at {α:Type} {l:List α} {k:Nat} {x:α} (h:l[k]?=some x):l=l.take k++x :: l.drop (k+1):=by
 obtain⟨hk,he⟩:=List.getElem?_eq_some_iff.1 h;rw[←he,List.getElem_cons_drop hk,List.take_append_drop]
theorem take_mid {α:Type} {a b:List α} {k:Nat} (h:a.length=k):(a++b).take k=a:=by subst h;simp
theorem drop_mid {α:Type} {a b:List α} {k:Nat} (h:a.length=k):(a++b).drop k=b:=by subst h;simp
theorem drop_mid1 {α:Type} {a b:List α} {x:α} {k:Nat} (h:a.length=k):(a++x :: b).drop (k+1)=b:=by
 subst h;rw[show a++x :: b=(a++ [x])++b by simp];exact drop_mid (by simp)
theorem uD (s:xM) (e:xS) (h4:e.zC≠4) (h5:e.zC≠5):doE s e= { s with zB:=wQ s.zB e.yB.toNat fun x=>⟨xY x.zL e⟩ } :=by
 unfold doE;rw[if_neg h4,if_neg h5]
theorem xXz {k:Nat} {t:xN} (h4:e.zC≠4) (h5:e.zC≠5) (hk:e.yB=(k:Int)) (ht:s.zB[k]?=some t):vO (doE s e) e.yB=xY t.zL e:=by
 rw[uD s e h4 h5,hk];refine wS (x:=⟨xY t.zL e⟩) ?_
 show (wQ s.zB _ _)[k]?=_
 rw[uK,ht,Int.toNat_natCast];simp
theorem apply_back (h:(wF s e).2=0):wF (wF s e).1 (wY s e)=(s,0):=by
 obtain⟨h1,h2,h3,h4,h5,h6⟩:=wFz h;rw[h6]
 have key:wK (wY s e)∧wG (doE s e) (wY s e)∧ ¬ ((wY s e).zC=1∧12≤(vO (doE s e) (wY s e).yB).length)∧doE (doE s e) (wY s e)=s:=by
  rcases yQz h2 with k|k|k|k|k
  ·-- an insertion is removed
   obtain⟨n,t,hn,ht⟩:=vQ h3 zM;have hc:=xXz zM zM hn ht;have hi:wY s e= { e with zC:=2,zY:=zAz } :=by unfold wY;rw[if_pos k]
   have hf:=h2;unfold wK at hf;rw[if_pos (.inl k)] at hf;have hr:=h3;unfold wG at hr;rw[if_neg zM,if_pos k] at hr;rw[hn,wS ht] at hr;have r1:=vJ.1 hr.1;have r2:=vJ.1 hr.2.1
   have hlen:(xY t.zL e).length=t.zL.length+1:=by
    unfold xY;rw[if_pos k];simp;omega
   rw[hi];refine⟨?_,?_,?_,?_⟩
   ·unfold wK
    simp only[];rw[if_neg zM,if_pos trivial];exact⟨hf.1,trivial⟩
   ·unfold wG
    simp only[];rw[if_neg zM,if_neg zM,if_neg zM,if_pos trivial,hc,hlen];refine⟨?_,vJ.2 zM⟩;rw[uD s e zM zM];simp only[wR];exact vJ.2 zM
   ·simp
   ·rw[uD _ _ (by simp) (by simp),uD s e zM zM,hn,Int.toNat_natCast]
    simp only[];rw[yDz ht ?_];have ha:(t.zL.take e.yF.toNat).length=e.yF.toNat:=by rw[List.length_take];omega
    simp only[xY,k,if_true,show ¬ ((2:Int)=1) by omega,if_false];rw[take_mid ha,drop_mid1 ha,List.take_append_drop]
  ·-- a removal is inserted
   obtain⟨n,t,hn,ht⟩:=vQ h3 zM;have hc:=xXz zM zM hn ht;have hi:wY s e= { e with zC:=1,zY:=yFz s e } :=by unfold wY;rw[if_neg zM,if_pos k]
   have hf:=h2;unfold wK at hf;rw[if_neg zM,if_pos k] at hf;have hr:=h3;unfold wG at hr;rw[if_neg zM,if_neg zM,if_neg zM,if_pos k] at hr;rw[hn,wS ht] at hr;have r1:=vJ.1 hr.1;have r2:=vJ.1 hr.2;have hget:t.zL[e.yF.toNat]?=some (t.zL[e.yF.toNat]'zM):=gE _
   have hca:yFz s e=t.zL[e.yF.toNat]'zM:=by
    unfold yFz;rw[hn,wS ht,List.getD_eq_getElem?_getD,hget];rfl
   have hlen:(xY t.zL e).length=t.zL.length - 1:=by
    unfold xY;rw[if_neg zM,if_pos k];simp;omega
   obtain⟨tk,src⟩:=h1.tracks n t ht;rw[hi];refine⟨?_,?_,?_,?_⟩
   ·unfold wK
    simp only[];rw[if_pos (.inl trivial),hca];exact⟨hf.1,(tk.clips _ _ hget).1⟩
   ·unfold wG
    simp only[];rw[if_neg zM,if_pos trivial,hc,hlen,hca];refine⟨?_,vJ.2 zM,?_⟩
    ·rw[uD s e zM zM]
     simp only[wR];exact vJ.2 zM
    ·rw[uD s e zM zM]
     exact src _ _ hget
   ·simp only[]
    rw[hc,hlen];have:=tk.few
    omega
   ·rw[uD _ _ (by simp) (by simp),uD s e zM zM,hn,Int.toNat_natCast]
    simp only[];rw[yDz ht ?_];have ha:(t.zL.take e.yF.toNat).length=e.yF.toNat:=by rw[List.length_take];omega
    simp only[xY,k,if_true,show ¬ ((2:Int)=1) by omega,if_false];rw[take_mid ha,drop_mid ha,hca,←cut_at hget]
  ·-- a replacement
   obtain⟨n,t,hn,ht⟩:=vQ h3 zM;have hc:=xXz zM zM hn ht;have hi:wY s e= { e with zY:=yFz s e } :=by unfold wY;rw[if_neg zM,if_neg zM,if_pos k]
   have hf:=h2;unfold wK at hf;rw[if_pos (.inr k)] at hf;have hr:=h3;unfold wG at hr;rw[if_neg zM,if_neg zM,if_pos k] at hr;rw[hn,wS ht] at hr;have r1:=vJ.1 hr.1;have r2:=vJ.1 hr.2.1;have hget:t.zL[e.yF.toNat]?=some (t.zL[e.yF.toNat]'zM):=gE _
   have hca:yFz s e=t.zL[e.yF.toNat]'zM:=by
    unfold yFz;rw[hn,wS ht,List.getD_eq_getElem?_getD,hget];rfl
   have hlen:(xY t.zL e).length=t.zL.length:=by
    unfold xY;rw[if_neg zM,if_neg zM];simp;omega
   obtain⟨tk,src⟩:=h1.tracks n t ht;rw[hi];refine⟨?_,?_,?_,?_⟩
   ·unfold wK
    simp only[];rw[if_pos (.inr k),hca];exact⟨hf.1,(tk.clips _ _ hget).1⟩
   ·unfold wG
    simp only[];rw[if_neg zM,if_neg zM,if_pos k,hc,hlen,hca];refine⟨?_,vJ.2 zM,?_⟩
    ·rw[uD s e zM zM]
     simp only[wR];exact vJ.2 zM
    ·rw[uD s e zM zM]
     exact src _ _ hget
   ·simp[k]
   ·rw[uD _ _ (by simp[k]) (by simp[k]),uD s e zM zM,hn,Int.toNat_natCast]
    simp only[];rw[yDz ht ?_];have ha:(t.zL.take e.yF.toNat).length=e.yF.toNat:=by rw[List.length_take];omega
    simp only[xY,k,show ¬ ((3:Int)=1) by omega,show ¬ ((3:Int)=2) by omega,if_false];rw[take_mid ha,drop_mid1 ha,hca,←cut_at hget]
  ·-- a feed
   have hi:wY s e= { e with yD:=s.zO.getD e.yB.toNat 0 } :=by unfold wY;rw[if_neg zM,if_neg zM,if_neg zM,if_pos k]
   have hf:=h2;unfold wK at hf;rw[if_neg zM,if_neg zM,if_pos k] at hf;have hr:=h3;unfold wG at hr;rw[if_neg zM,if_neg zM,if_neg zM,if_neg zM] at hr;have r1:=vJ.1 hr.1;have r2:=vJ.1 hr.2;have hfl:=h1.feed;have hget:s.zO[e.yB.toNat]?=some (s.zO[e.yB.toNat]'zM):=gE _;have hfe:=h1.feeds _ _ hget;have hd:s.zO.getD e.yB.toNat 0=s.zO[e.yB.toNat]'zM:=by rw[List.getD_eq_getElem?_getD,hget];rfl
   have hdo:doE s e= { s with zO:=s.zO.set e.yB.toNat e.yD } :=by unfold doE;rw[if_pos k]
   rw[hi,hdo];refine⟨?_,?_,?_,?_⟩
   ·unfold wK
    simp only[];rw[if_neg zM,if_neg zM,if_pos k];exact hf
   ·unfold wG
    simp only[];rw[if_neg zM,if_neg zM,if_neg zM,if_neg zM,hd];exact⟨hr.1,vJ.2 zM⟩
   ·simp[k]
   ·unfold doE
    simp only[];rw[if_pos k,hd,List.set_set,List.set_getElem_self]
  ·-- a send
   have hi:wY s e= { e with yD:=((zPz s e.yB).getD e.yF.toNat ⟨0,0⟩).zZ } :=by unfold wY;rw[if_neg zM,if_neg zM,if_neg zM,if_neg zM]
   have hf:=h2;unfold wK at hf;rw[if_neg zM,if_neg zM,if_neg zM,if_pos k] at hf;have hr:=h3;unfold wG at hr;rw[if_pos k] at hr;have r1:=vJ.1 hr.1;have hgs:s.zI.zF[e.yB.toNat]?=some (s.zI.zF[e.yB.toNat]'zM):=gE _;generalize s.zI.zF[e.yB.toNat]'zM=st at hgs;have hsa:zPz s e.yB=st.zV:=by unfold zPz;rw[hgs];rfl
   rw[hsa] at hr hi;have r2:=vJ.1 hr.2.1;have hget:st.zV[e.yF.toNat]?=some (st.zV[e.yF.toNat]'zM):=gE _;generalize st.zV[e.yF.toNat]'zM=sd at hget;have hd:st.zV.getD e.yF.toNat ⟨0,0⟩=sd:=by rw[List.getD_eq_getElem?_getD,hget];rfl
   rw[hd] at hi;have hsm:=((h1.mixer.each _ _ hgs).1.sends.each _ _ hget).2;have hdo:doE s e= { s with zI:=⟨wQ s.zI.zF e.yB.toNat fun x=> { x with zV:=wQ x.zV e.yF.toNat fun y=> { y with zZ:=e.yD } }⟩ } :=by unfold doE;rw[if_neg zM,if_pos k]
   have hsb:zPz (doE s e) e.yB=wQ st.zV e.yF.toNat fun y=> { y with zZ:=e.yD } :=by
    rw[hdo];unfold zPz;simp only[];rw[uK,hgs];simp
   rw[hi];refine⟨?_,?_,?_,?_⟩
   ·unfold wK
    simp only[];rw[if_neg zM,if_neg zM,if_neg zM,if_pos k];exact hf
   ·unfold wG
    simp only[];rw[if_pos k,hsb,wR,hdo];simp only[wR];exact⟨hr.1,hr.2.1,hsm⟩
   ·simp[k]
   ·rw[hdo]
    unfold doE;simp only[];rw[if_neg zM,if_pos k];rw[yDz hgs ?_];simp only[];rw[yDz hget rfl]
 obtain⟨k1,k2,k3,k4⟩:=key;rw[yUz h5 k1 k2 k3 (by rw[k4];exact h1),k4]
end
noncomputable def uU:xM→List xS→Nat→xM × Int × Int
 |s,[],i=>(s,(i:Int),0)
 |s,e :: r,i=>if (wF s e).2=0 then uU (wF s e).1 r (i+1) else (wN,(i:Int),(wF s e).2)
noncomputable def vM (s:xM) (l:List xS):xM × Int × Int:=
 if tf (xW s)=true then (if l.length≤40 then uU s l 0 else (wN,0,2)) else (wN,0,1)
theorem runE_len: ∀ {l:List xS} {s x:xM} {i:Nat} {n:Int},uU s l i=(x,n,0)→n=((i+l.length:Nat):Int)
 | [],s,x,i,n,h=>by simp only[uU] at h;injection h with _ h;injection h with h _;simp[←h]
 |e :: r,s,x,i,n,h=>by
  simp only[uU] at h;by_cases hc:(wF s e).2=0
  ·rw[if_pos hc] at h
   rw[runE_len h];simp only[List.length_cons]
   omega
  ·rw[if_neg hc] at h
   injection h with _ h;injection h with _ h;exact absurd h hc
noncomputable def yGz:xM→List xS→List xS→List xS
 |_,[],u=>u
 |s,e :: r,u=>yGz (wF s e).1 r (wY s e :: u)
theorem undoL_len: ∀ (l:List xS) (s:xM) (u:List xS),(yGz s l u).length=l.length+u.length
 | [],_,_=>by simp[yGz]
 |e :: r,s,u=>by simp only[yGz];rw[undoL_len r];simp only[List.length_cons];omega
theorem runE_undo: ∀ {l:List xS} {s x s0:xM} {i:Nat} {n:Int} {u:List xS},uU s l i=(x,n,0)→(∀ j,uU s u j=(s0,((j+u.length:Nat):Int),0))→ ∀ j,uU x (yGz s l u) j=(s0,((j+(l.length+u.length):Nat):Int),0)
 | [],s,x,s0,i,n,u,h,hu=>by
  intro j;simp only[uU] at h;injection h with h1 _;subst h1;rw[yGz,hu];simp
 |e :: r,s,x,s0,i,n,u,h,hu=>by
  intro j;simp only[uU] at h;by_cases hc:(wF s e).2=0
  ·rw[if_pos hc] at h
   have hb:=apply_back hc;simp only[yGz]
   rw[runE_undo h (u:=wY s e :: u) (s0:=s0) (fun j=>by
    simp only[uU];rw[hb];simp only[if_true];rw[hu];simp only[List.length_cons];rw[show j+1+u.length=j+(u.length+1) by omega])]
   simp only[List.length_cons];rw[show j+(r.length+(u.length+1))=j+(r.length+1+u.length) by omega]
  ·rw[if_neg hc] at h
   injection h with _ h;injection h with _ h;exact absurd h hc
theorem runE_ok: ∀ {l:List xS} {s x:xM} {i:Nat} {n:Int},xW s→uU s l i=(x,n,0)→xW x
 | [],s,x,i,n,hs,h=>by simp only[uU] at h;injection h with h _;subst h;exact hs
 |e :: r,s,x,i,n,hs,h=>by
  simp only[uU] at h;by_cases hc:(wF s e).2=0
  ·rw[if_pos hc] at h
   obtain⟨_,_,_,_,h5,h6⟩:=wFz hc;exact runE_ok (by rw[h6];exact h5) h
  ·rw[if_neg hc] at h
   injection h with _ h;injection h with _ h;exact absurd h hc
theorem undone {s x:xM} {l:List xS} {n:Int} (h:vM s l=(x,n,0)):n=(l.length:Int)∧vM x (yGz s l [])=(s,n,0):=by
 unfold vM at h;by_cases h1:tf (xW s)=true
 ·rw[if_pos h1] at h
  by_cases h2:l.length≤40
  ·rw[if_pos h2] at h
   have hn:=runE_len h;have hx:=runE_ok (wBz.1 h1) h;refine⟨by simpa using hn,?_⟩;unfold vM;rw[if_pos (xG hx),if_pos (by rw[undoL_len];simpa using h2),runE_undo h (u:= []) (s0:=s) (fun j=>by simp[uU]),hn];simp
  ·rw[if_neg h2] at h
   injection h with _ h;injection h with _ h;exact absurd h (by decide)
 ·rw[if_neg h1] at h
  injection h with _ h;injection h with _ h;exact absurd h (by decide)
end
section
open Go.RowKit
end
section
open Go.RowKit
end
end Go.Proofs.YtdcofkabaigjpaaGreat
