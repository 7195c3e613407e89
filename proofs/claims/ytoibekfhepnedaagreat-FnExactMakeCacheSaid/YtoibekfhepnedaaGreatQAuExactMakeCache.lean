/- Regions that draw their order and end in one store over a cell that they have loaded. No program is named here. The player's memory; a frame, by the program. -/
import Derived.Test.YtoibekfhepnedaaGreatQAqExactMakeCache
import Derived.Deep.RegionHeldLaw
import Derived.StillTail
import Derived.Test.YtoibekfhepnedaaGreatQApExactMakeCache
import Derived.Test.YtoibekfhepnedaaGreatQAsExactMakeCache
import Derived.Test.YtoibekfhepnedaaGreatQAtExactMakeCache
import Derived.Test.YtoibekfhepnedaaGreatQAfExactMakeCache
set_option linter.unusedVariables false
set_option linter.unusedSimpArgs false
set_option maxHeartbeats 8000000
set_option maxRecDepth 100000
namespace Go.Proofs.YtoibekfhepnedaaGreat
section
open Go.RowKit
section
variable {P:Program} {ops:Array Oper} {Q:Exit→Act→World→Prop} {md:Region.Mode} {S:World→Prop} {n:Nat}
/-- Whatever order is picked from here on; behind every operation but number n, which waits for all others, S holds. -/
def wpAnyE (P:Program) (md:Region.Mode) (ops:Array Oper) (Q:Exit→Act→World→Prop) (S:World→Prop) (n:Nat):Nat→Array Bool→Act→World→Prop
 |0,listed,a,w=>Region.ready md ops listed= []∧Q .normal a w
 |fuel+1,listed,a,w=>
  (Region.ready md ops listed= []→Q .normal a w)∧
  ∀ i ∈ Region.ready md ops listed,wpOp P ops Q i (fun a' w'=>(i=n∨S w')∧wpAnyE P md ops Q S n fuel (listed.setIfInBounds i true) a' w') a w
theorem wpAny_of_E: ∀ (fuel:Nat) (listed:Array Bool) (a:Act) (w:World),wpAnyE P md ops Q S n fuel listed a w→wpAny P md ops Q fuel listed a w
 |0,_,_,_,h=>h
 |fuel+1,_,_,_,h=>⟨h.1,fun i hi=>wpOp_mono (fun a' w' h'=>wpAny_of_E fuel _ a' w' h'.2) (h.2 i hi)⟩
theorem wpAnyE_first {i:Nat} {oi:Oper} {v:Value} (hn:Region.waitsFor md ops n i=true) (hi:ops[i]?=some oi) (hsel: ∀ (j:Nat) (o:Oper) cs b,ops[j]?=some o→o.op≠ .select cs b)
  (hQ: ∀ c a w,Q (.panic c) (a.put oi.dst v) w→Q (.panic c) a w):
  ∀ (fuel:Nat) (listed:Array Bool) (a:Act) (w:World),
   (∀ j oj,ops[j]?=some oj→j≠i→listed.getD j true=false→(∀ e ∈ oj.after,Region.binds md e=true→e.on≠i)→oi.apart ops oj=true)→
   i ∈ Region.ready md ops listed→YieldsIf P ops S oi v a→S w→
   wpAnyE P md ops Q S n fuel (listed.setIfInBounds i true) (a.put oi.dst v) w→wpAnyE P md ops Q S n (fuel+1) listed a w:=by
 have late: ∀ {listed:Array Bool} {j:Nat},i ∈ Region.ready md ops listed→j ∈ Region.ready md ops listed→j≠n:=by
  intro listed j hr hj e
  subst e
  obtain⟨oj,hoj,e,he,hb,heq⟩:=Region.waitsFor_spec hn
  obtain⟨_,oj',hoj',hall⟩:=mem_ready.1 hj
  obtain rfl:oj=oj':=Option.some.inj (hoj.symm.trans hoj')
  have h1:=hall e he hb
  have h0:=(mem_ready.1 hr).1
  rw[heq,getD_both h0] at h1
  cases h1
 intro fuel
 induction fuel with
 |zero=>
  intro listed a w _ hr hy hS H
  refine⟨fun h=>(by rw[h] at hr;cases hr),fun j hj=>?_⟩
  by_cases hji:j=i
  ·subst hji;exact hy.wpOp hi hS ⟨.inr hS,H⟩
  ·have:=ready_mono hj hji
   rw[H.1] at this
   cases this
 |succ fuel ih=>
  intro listed a w hfree hr hy hS H
  refine⟨fun h=>(by rw[h] at hr;cases hr),fun j hj=>?_⟩
  by_cases hji:j=i
  ·subst hji;exact hy.wpOp hi hS ⟨.inr hS,H⟩
  ·have h1:=H.2 j (ready_mono hj hji)
   obtain⟨hjun,oj,hoj,hall⟩:=mem_ready.1 hj
   have hun:=(mem_ready.1 hr).1
   have hnot: ∀ e ∈ oj.after,Region.binds md e=true→e.on≠i:=fun e he hb heq=>by
    have h1:=hall e he hb
    rw[heq,getD_both hun] at h1
    cases h1
   have h2:=wpOp_putIf hoj (hfree j oj hoj hji hjun hnot) (fun cs b=>hsel i oi cs b hi) (fun cs b=>hsel j oj cs b hoj) hQ hy h1
   have hfree': ∀ k ok,ops[k]?=some ok→k≠i→(listed.setIfInBounds j true).getD k true=false→
     (∀ e ∈ ok.after,Region.binds md e=true→e.on≠i)→oi.apart ops ok=true:=fun k ok hk hki hun hno=>by
    refine hfree k ok hk hki ?_ hno
    by_cases hjk:j=k
    ·subst hjk;exact hjun
    ·rw[getD_set_ne true hjk] at hun;exact hun
   have hjn:=late hr hj
   refine wpOp_mono (fun a' w' h3=>?_) h2
   have hS':S w':=h3.2.1.resolve_left hjn
   refine⟨.inr hS',ih (listed.setIfInBounds j true) a' w' hfree' (ready_mono hr (Ne.symm hji)) h3.1 hS' ?_⟩
   rw[Array.setIfInBounds_comm _ _ hji]
   exact h3.2.2
/-- Take number i first. -/
theorem yY {i:Nat} {oi:Oper} {v:Value} {fuel:Nat} {listed:Array Bool} {a:Act} {w:World} (hn:Region.waitsFor md ops n i=true) (hi:ops[i]?=some oi)
  (hs:Region.noSelect ops=true) (hf:Region.free md ops listed i=true) (hr:(Region.ready md ops listed).contains i=true)
  (hQ: ∀ c a w,Q (.panic c) (a.put oi.dst v) w→Q (.panic c) a w) (hS:S w) (hw:Region.wanted oi (yielded ops a.tmps)=true) (hy: ∀ w,S w→(execOp a.eval oi).run P w= .ok (.value v) w)
  (h:wpAnyE P md ops Q S n fuel (listed.setIfInBounds i true) (a.put oi.dst v) w):wpAnyE P md ops Q S n (fuel+1) listed a w:=
 wpAnyE_first hn hi (Region.noSelect_spec hs) hQ fuel listed a w (Region.free_spec hi hf) (by simpa using hr) (.inl ⟨hw,hy⟩) hS h
/-- Number i alone may come up. -/
theorem wpAnyE_one {i:Nat} {o:Oper} {fuel:Nat} {listed:Array Bool} {a:Act} {w:World} (hr:Region.ready md ops listed= [i]) (ho:ops[i]?=some o)
  (h: ∀ K':Act→World→Prop,Shut (∀ a w,S w→(S w→wpAnyE P md ops Q S n fuel (listed.setIfInBounds i true) a w)→K' a w)→if Region.wanted o (yielded ops a.tmps)=true then Oper.wp P o a w K' Q else K' (a.put o.dst undef) w):
  wpAnyE P md ops Q S n (fuel+1) listed a w:=
 ⟨fun h0=>(by rw[hr] at h0;cases h0),fun j hj=>by
  rw[hr,List.mem_singleton] at hj
  subst hj
  exact wpOp_step ho (fun K' hK=>h K' (fun a w hS hW=>hK a w ⟨.inr hS,hW hS⟩))⟩
/-- Number n comes up last. -/
theorem wJ {o:Oper} {fuel:Nat} {listed:Array Bool} {a:Act} {w:World} (hr:Region.ready md ops listed= [n]) (ho:ops[n]?=some o) (hr2:Region.ready md ops (listed.setIfInBounds n true)= [])
  (h:wpList P ops Q [o] a w):wpAnyE P md ops Q S n (fuel+1) listed a w:=
 ⟨fun h0=>(by rw[hr] at h0;cases h0),fun j hj=>by
  rw[hr,List.mem_singleton] at hj
  subst hj
  have hw:wpOp P ops Q j (wpList P ops Q []) a w:=by unfold wpOp;simp only[ho];exact h
  refine wpOp_mono (fun a' w' h'=>⟨.inl rfl,?_⟩) hw
  have h':Q .normal a' w':=h'
  cases fuel with
  |zero=>exact⟨hr2,h'⟩
  |succ f=>exact⟨fun _=>h',by rw[hr2];simp⟩⟩
/-- The beginning: S is shown of the world behind the draw. -/
theorem wK {id:Nat} {a:Act} {w:World} (S:World→Prop) (n:Nat) (hm:P.follows .mixedOrders=true) (hS:S w.drew)
  (h:S w.drew→wpAnyE P .any ops Q S n ops.size (Array.replicate ops.size false) a w.drew):(Code.region id ops true).wp P Q a w:=
 wp_region_any hm (wpAny_of_E _ _ _ _ (h hS))
end
/-- Take number i first (few words). -/
theorem tE {P:Program} {md:Region.Mode} {ops:Array Oper} {Q:Exit→Act→World→Prop} {S:World→Prop} {n:Nat} (i:Nat) {oi:Oper} {v:Value} {fuel:Nat} {listed:Array Bool} {a b:Act} {w:World} (hS:S w)
  (h:wpAnyE P md ops Q S n fuel (listed.setIfInBounds i true) b w)
  (hi:ops[i]?=some oi:=by rfl)
  (hc:(Region.waitsFor md ops n i && Region.noSelect ops && Region.free md ops listed i && (Region.ready md ops listed).contains i)=true:=by kernel_rfl)
  (hQ: ∀ c a w,Q (.panic c) (a.put oi.dst v) w→Q (.panic c) a w:=by exact fun _ _ _ h=>h)
  (hw:Region.wanted oi (yielded ops a.tmps)=true:=by rfl)
  (hy: ∀ w,S w→(execOp a.eval oi).run P w= .ok (.value v) w:=by(intro w hSw;(try dsimp only at hSw);first|(go_simp;done)|(go_simp;with_reducible rfl)))
  (hb:a.put oi.dst v=b:=by(simp only[Act.put,List.setIfInBounds_toArray,List.set_cons_zero,List.set_cons_succ];try with_reducible rfl)):wpAnyE P md ops Q S n (fuel+1) listed a w:=by
 subst hb
 simp only[Bool.and_eq_true] at hc
 obtain⟨⟨⟨h1,h2⟩,h3⟩,h4⟩:=hc
 exact yY h1 hi h2 h3 h4 hQ hS hw hy h
theorem oE {P:Program} {md:Region.Mode} {ops:Array Oper} {Q:Exit→Act→World→Prop} {S:World→Prop} {n:Nat} (i:Nat) {o:Oper} {fuel:Nat} {listed:Array Bool} {a:Act} {w:World}
  (h: ∀ K':Act→World→Prop,Shut (∀ a w,S w→(S w→wpAnyE P md ops Q S n fuel (listed.setIfInBounds i true) a w)→K' a w)→if Region.wanted o (yielded ops a.tmps)=true then Oper.wp P o a w K' Q else K' (a.put o.dst undef) w)
  (hr:Region.ready md ops listed= [i]:=by kernel_rfl) (ho:ops[i]?=some o:=by rfl):wpAnyE P md ops Q S n (fuel+1) listed a w:=wpAnyE_one hr ho h
theorem uE {S:World→Prop} {R K:Act→World→Prop} {a b:Act} {w:World} (hK:Shut (∀ a w,S w→(S w→R a w)→K a w)) (hS:S w) (h:S w→R b w)
  (hb:a=b:=by(try simp only[Act.put,List.setIfInBounds_toArray,List.set_cons_zero,List.set_cons_succ]);try with_reducible rfl):K a w:=by
 subst hb;exact hK.out a w hS h
end
section
open Go.RowKit
theorem trn_drew {F:List Nat} {w w':World} (h:Trn F w w'):Trn F w w'.drew:=⟨h.os,h.tape,h.output,h.size,h.block⟩
theorem knd_few (k:Int):(kndF k).inputs≤3:=by
 unfold kndF
 rw[List.getD_eq_getElem?_getD]
 cases hg:kndL[(k - 1).toNat]? with
 |none=>decide
 |some y=>exact(by decide: ∀ y ∈ kndL,y.inputs≤3) y (List.mem_of_getElem? hg)
theorem arity_few {x:xJ} {n:Int} (h:NodeOk x n):x.zH.length≤3:=by
 have h1:=h.arity;have h2:=knd_few x.zD
 omega
theorem rd_trn2 {w w':World} {bv bc:Nat} {v:Value} {xs:List Int} (h:RdI w v xs) (k:Trn [bv,bc] w w') (h1:v.ownBlock≠some bv) (h2:v.ownBlock≠some bc):RdI w' v xs:=
 h.keep k.size fun b hb hlt=>k.block b hlt (fun hm=>by
  simp at hm
  rcases hm with e|e
  ·subst e;exact h1 hb
  ·subst e;exact h2 hb)
/-- Slices of numbers in a block known whole, none of them in some blocks. -/
structure Cel (w:World) (bc:Nat) (A:List Nat) (t:TypeId) (cs:Array Value) (cells:List (List Int)):Prop where
 bk:Bk w bc t cs
 each: ∀ (i:Nat) (l:List Int),cells[i]?=some l→ ∃ v:Value,cs[i]?=some v∧RdI w v l∧(∀ q ∈ A,v.ownBlock≠some q)∧ ∀ k,v.ownBlock=some k→k<w.heap.size
section
variable {w w':World} {bc:Nat} {A:List Nat} {t:TypeId} {cs:Array Value} {cells:List (List Int)}
theorem Cel.below (h:Cel w bc A t cs cells) (hb:Below w.heap.size w w'):Cel w' bc A t cs cells:=
 ⟨h.bk.below hb h.bk.lt,fun i l hl=>by
  obtain⟨v,h1,h2,h3,h4⟩:=h.each i l hl
  exact⟨v,h1,RdI.below h2 hb,h3,fun k hk=>lL (h4 k hk) hb.size⟩⟩
theorem Cel.add (h:Cel w bc A t cs cells) (hb:Below w.heap.size w w') {g:Nat} (hg:w.heap.size≤g):Cel w' bc (g :: A) t cs cells:=
 ⟨h.bk.below hb h.bk.lt,fun i l hl=>by
  obtain⟨v,h1,h2,h3,h4⟩:=h.each i l hl
  refine⟨v,h1,RdI.below h2 hb,fun q hq e=>?_,fun k hk=>lL (h4 k hk) hb.size⟩
  rcases List.mem_cons.1 hq with e2|hq
  ·have:=h4 q e;omega
  ·exact h3 q hq e⟩
theorem Cel.grow (h:Cel w bc A t cs cells) {row:Option Nat} (hg:w.grownBy w' row) (hrow: ∀ g,row=some g→g ∈ A∧bc≠g) {G:List Nat} (hG: ∀ g ∈ G,g ∈ A∨w.heap.size≤g):Cel w' bc (G++A) t cs cells:=
 ⟨h.bk.grown hg (fun e=>(hrow bc e.symm).2 rfl),fun i l hl=>by
  obtain⟨v,h1,h2,h3,h4⟩:=h.each i l hl
  refine⟨v,h1,RdI.grown h2 hg (fun b hb e=>h3 b (hrow b e.symm).1 hb),fun q hq e=>?_,fun k hk=>lL (h4 k hk) hg.size⟩
  rcases List.mem_append.1 hq with hq|hq
  ·rcases hG q hq with h5|h5
   ·exact h3 q h5 e
   ·have:=h4 q e;omega
  ·exact h3 q hq e⟩
theorem Cel.far (h:Cel w bc A t cs cells) {g:Nat} (hne:bc≠g) (hg:g ∈ A) (j:Nat) (u:Value):Cel (w.setCell ⟨g,j,none⟩ u) bc A t cs cells:=
 ⟨h.bk.far hne u,fun i l hl=>by
  obtain⟨v,h1,h2,h3,h4⟩:=h.each i l hl
  exact⟨v,h1,RdI.grown h2 ((Gr.refl g w).set_ j u).1 (fun b hb e=>h3 g hg (hb.trans e)),h3,fun k hk=>by simpa[World.setCell] using h4 k hk⟩⟩
theorem Cel.put (h:Cel w bc A t cs cells) {i:Nat} {l0 l:List Int} {v:Value} (hi:cells[i]?=some l0) (hv:RdI w v l) (hc:bc ∈ A) (hn: ∀ q ∈ A,v.ownBlock≠some q) (hl4: ∀ k,v.ownBlock=some k→k<w.heap.size):Cel (w.setCell ⟨bc,i,none⟩ v) bc A t (cs.setIfInBounds i v) (cells.set i l):=by
 have hg:=((Gr.refl bc w).set_ i v).1
 have hsz:(w.setCell ⟨bc,i,none⟩ v).heap.size=w.heap.size:=by simp[World.setCell]
 refine⟨h.bk.set_ i v,fun j l' hl=>?_⟩
 by_cases e:i=j
 ·subst e
  obtain⟨v0,h1,_⟩:=h.each i l0 hi
  have hlt:i<cs.size:=(Array.getElem?_eq_some_iff.1 h1).1
  rw[List.getElem?_set_self (List.getElem?_eq_some_iff.1 hi).1] at hl
  injection hl with hl
  subst hl
  exact⟨v,by rw[Array.getElem?_setIfInBounds_self_of_lt hlt],RdI.grown hv hg (fun b hb e=>hn bc hc (hb.trans e)),hn,fun k hk=>by rw[hsz];exact hl4 k hk⟩
 ·rw[List.getElem?_set_ne e] at hl
  obtain⟨v',h1,h2,h3,h4⟩:=h.each j l' hl
  exact⟨v',by rw[Array.getElem?_setIfInBounds_ne e];exact h1,RdI.grown h2 hg (fun b hb e=>h3 bc hc (hb.trans e)),h3,fun k hk=>by rw[hsz];exact h4 k hk⟩
end
/-- A player in memory: block b; its values in block bv, its cells in block bc; what it only reads lies in w0. -/
structure Plr (w0 w:World) (n:Nat) (b bv bc:Nat) (A:List Nat) (cv cc:Nat) (pv:List Value) (ordV:Value) (vals:List Int) (cells:List (List Int)) (cs:Array Value):Prop where
 bel:Below w0.heap.size w0 w
 lo:w0.heap.size≤b∧w0.heap.size≤bv∧w0.heap.size≤bc
 ne:b≠bv∧b≠bc∧bc≠bv
 av:bv ∈ A
 ac:bc ∈ A
 alt: ∀ q ∈ A,q<w.heap.size
 bk:Bk w b 299 (pv++ [ordV,.slice (some ⟨bv,0,none⟩) n cv,.slice (some ⟨bc,0,none⟩) n cc]).toArray
 vals:OwI 2 w w0.heap.size (.slice (some ⟨bv,0,none⟩) n cv) vals
 cel:Cel w bc A 26 cs cells
section
variable {w0 w w':World} {n b bv bc cv cc:Nat} {A:List Nat} {pv:List Value} {ordV:Value} {vals:List Int} {cells:List (List Int)} {cs:Array Value}
theorem Plr.below (h:Plr w0 w n b bv bc A cv cc pv ordV vals cells cs) (hb:Below w.heap.size w w'):Plr w0 w' n b bv bc A cv cc pv ordV vals cells cs:=
 ⟨yJ h.bel h.bel.size hb,h.lo,h.ne,h.av,h.ac,fun q hq=>lL (h.alt q hq) hb.size,h.bk.below hb h.bk.lt,wO h.vals hb,h.cel.below hb⟩
theorem Plr.add (h:Plr w0 w n b bv bc A cv cc pv ordV vals cells cs) (hb:Below w.heap.size w w') {g:Nat} (hg:w.heap.size≤g) (hg2:g<w'.heap.size):Plr w0 w' n b bv bc (g :: A) cv cc pv ordV vals cells cs:=
 ⟨yJ h.bel h.bel.size hb,h.lo,h.ne,List.mem_cons_of_mem _ h.av,List.mem_cons_of_mem _ h.ac,fun q hq=>by
  rcases List.mem_cons.1 hq with e|hq
  ·subst e;exact hg2
  ·exact lL (h.alt q hq) hb.size,h.bk.below hb h.bk.lt,wO h.vals hb,h.cel.add hb hg⟩
theorem Plr.drew (h:Plr w0 w n b bv bc A cv cc pv ordV vals cells cs):Plr w0 w.drew n b bv bc A cv cc pv ordV vals cells cs:=h.below (Below.refl w.heap.size w).drew
theorem Plr.setV (h:Plr w0 w n b bv bc A cv cc pv ordV vals cells cs) (j:Nat) (u:Int):Plr w0 (w.setCell ⟨bv,j,none⟩ (.int .i64 u)) n b bv bc A cv cc pv ordV (vals.set j u) cells cs:=
 ⟨h.bel.setCell h.lo.2.1 _,h.lo,h.ne,h.av,h.ac,fun q hq=>by simpa[World.setCell] using h.alt q hq,h.bk.far h.ne.1 _,h.vals.setN j u,h.cel.far h.ne.2.2 h.av _ _⟩
theorem Plr.setG (h:Plr w0 w n b bv bc A cv cc pv ordV vals cells cs) {g:Nat} (hg:g ∈ A) (h0:w0.heap.size≤g) (n1:b≠g) (n2:bv≠g) (n3:bc≠g) (j:Nat) (u:Value):Plr w0 (w.setCell ⟨g,j,none⟩ u) n b bv bc A cv cc pv ordV vals cells cs:=
 ⟨h.bel.setCell h0 _,h.lo,h.ne,h.av,h.ac,fun q hq=>by simpa[World.setCell] using h.alt q hq,h.bk.far n1 _,h.vals.far (fun k hk=>by injection hk with hk;subst hk;exact n2) _,h.cel.far n3 hg _ _⟩
theorem Plr.grow (h:Plr w0 w n b bv bc A cv cc pv ordV vals cells cs) {v v':Value} (hg:w.grownBy w' v.ownBlock) (hv: ∀ g,v.ownBlock=some g→g ∈ A∧w0.heap.size≤g∧b≠g∧bv≠g∧bc≠g) (hv': ∀ g,v'.ownBlock=some g→(v.ownBlock=some g∨w.heap.size≤g)∧g<w'.heap.size):Plr w0 w' n b bv bc (v'.ownBlock.toList++A) cv cc pv ordV vals cells cs:=by
 have nb: ∀ q,(∀ g,v.ownBlock=some g→q≠g)→some q≠v.ownBlock:=fun q hq e=>hq q e.symm rfl
 refine⟨h.bel.grown hg h.bel.size (fun j hj=>(hv j hj).2.1),h.lo,h.ne,List.mem_append_right _ h.av,List.mem_append_right _ h.ac,fun q hq=>?_,h.bk.grown hg (nb b fun g hg=>(hv g hg).2.2.1),zDz (fun q hq=>hg.block q (h.vals.lt q hq).2 (nb q fun g hg'=>by injection hq with hq;subst hq;exact(hv g hg').2.2.2.1)) h.vals,⟨h.cel.bk.grown hg (nb bc fun g hg=>(hv g hg).2.2.2.2),fun i l hl=>?_⟩⟩
 ·rcases List.mem_append.1 hq with hq|hq
  ·exact(hv' q (by simpa using hq)).2
  ·exact lL (h.alt q hq) hg.size
 ·obtain⟨u,h1,h2,h3,h4⟩:=h.cel.each i l hl
  refine⟨u,h1,RdI.grown h2 hg (fun q hq e=>h3 q (hv q e.symm).1 hq),fun q hq e=>?_,fun k hk=>lL (h4 k hk) hg.size⟩
  rcases List.mem_append.1 hq with hq|hq
  ·rcases(hv' q (by simpa using hq)).1 with e2|e2
   ·exact h3 q (hv q e2).1 e
   ·have:=h4 q e;omega
  ·exact h3 q hq e
theorem Plr.setC (h:Plr w0 w n b bv bc A cv cc pv ordV vals cells cs) {i:Nat} {l0 l:List Int} {v:Value} (hi:cells[i]?=some l0) (hv:RdI w v l) (hn: ∀ q ∈ A,v.ownBlock≠some q) (hl4: ∀ k,v.ownBlock=some k→k<w.heap.size):Plr w0 (w.setCell ⟨bc,i,none⟩ v) n b bv bc A cv cc pv ordV vals (cells.set i l) (cs.setIfInBounds i v):=
 ⟨h.bel.setCell h.lo.2.2 _,h.lo,h.ne,h.av,h.ac,fun q hq=>by simpa[World.setCell] using h.alt q hq,h.bk.far h.ne.2.1 _,h.vals.far (fun k hk=>by injection hk with hk;subst hk;exact fun e=>h.ne.2.2 e.symm) _,h.cel.put hi hv h.ac hn hl4⟩
end
theorem c_frame (p:xG) (w0:World) (b bv bc:Nat) (A:List Nat) (cv cc:Nat) (pv:List Value) (ordV fv:Value) (vals frame:List Int) (cells:List (List Int)) (cs:Array Value) (w:World) (hP:wZ p) (hs:StOk p cells) (hF: ∀ y ∈ frame,Smp y) (hfl:(frame.length:Int)=p.zJ) (hV: ∀ y ∈ vals,Smp y) (hvl:vals.length=p.zB.length)
  (hr:T.rds w0 p.fs pv) (ho:RdI w0 ordV (xR p.zB)) (hcv:p.zB.length≤cv) (hcc:p.zB.length≤cc) (h:Plr w0 w p.zB.length b bv bc A cv cc pv ordV vals cells cs) (hf:RdI w fv frame) (hf1:fv.ownBlock≠some bv) (hf2:fv.ownBlock≠some bc):
  Calls Tryz.prog 273 #[.pointer (some ⟨b,0,none⟩),fv] w fun e w'=>e= .returned (.tuple #[])∧ ∃ cs',Plr w0 w' p.zB.length b bv bc A cv cc pv ordV (vO p cells frame) (vM p cells frame (vO p cells frame)) cs'∧Trn [bv,bc] w w':=by
 have HP:=hide hP;have HS:=hide hs;have HFS:=hide hF;have HVS:=hide hV;have HPL0:=hide h;have HF:=hide hf;have HF1:=hide hf1;have HF2:=hide hf2
 have hn24:p.zB.length≤24:=hP.formed.few;have hol:(xR p.zB).length=p.zB.length:=hP.order
 have HTF:=hide (fun k i (hk:(xR p.zB)[k]?=some i)=>turn_facts (frame:=frame) hP hs hvl hk);have HTG:=hide (fun k x (hx:p.zB[k]?=some x)=>turn2_facts (frame:=frame) hP hs hx)
 have HAll:=hide (And.intro (updA_all (cells:=cells) (frame:=frame) hP) (updB_all (frame:=frame) hs));have HVA:=hide (vals_any (cells:=cells) (frame:=frame) hP.play hvl)
 have HVO:=hide (fun l v hv=>valsOf_smp hP hs hF l v hv);have HVF:=hide (valsF_smp (frame:=frame) hP hs hF)
 have HVL:=hide hvl;have hfi:=hfl;clear hP hs hF hV h hf hf1 hf2 hvl hfl
 have HRP:=hide hr
 obtain⟨v1,v2,v3,rfl,h1,h2,h3⟩:=xG.yO hr
 clear hr
 have R1:=hide h1;obtain⟨va1,vc1,rfl,vl1,vm1,vx1⟩:=T.yN h1
 have HX1:=hide vx1;clear vx1 h1
 have R2:=hide h2;obtain⟨va2,vc2,rfl,vl2,vm2,vx2⟩:=T.yN h2
 have HX2:=hide vx2;clear vx2 h2
 have h3i:=T.yT.1 h3;obtain⟨va3,vc3,rfl,vl3,vm3,vx3⟩:=h3i.open_
 have R3:=hide h3i;have HX3:=hide vx3;clear vx3 h3 h3i
 have HOR:=hide ho;obtain⟨oA,oc,rfl,ol,om,ox⟩:=ho.open_;rw[hol] at *;have HXO:=hide ox;clear ox ho
 generalize hpv:([.int .i64 p.zJ,.slice va1 p.zN.length vc1,.slice va2 p.zB.length vc2,.slice va3 p.zK.length vc3]:List Value)=pv at *
 generalize hov:(Value.slice oA p.zB.length oc)=ordV at *
 have HBK:=hide (fun(W:World) (V:List Int) (C:List (List Int)) (cs:Array Value) (h:Plr w0 W p.zB.length b bv bc A cv cc pv ordV V C cs)=>(by have:=h.bk;rw[←hpv,←hov] at this;exact this:Bk W b 299 #[.int .i64 p.zJ,.slice va1 p.zN.length vc1,.slice va2 p.zB.length vc2,.slice va3 p.zK.length vc3,.slice oA p.zB.length oc,.slice (some ⟨bv,0,none⟩) p.zB.length cv,.slice (some ⟨bc,0,none⟩) p.zB.length cc]));clear hpv hov
 have kb:=(HBK.out _ _ _ _ HPL0.out).cell;have lb:=HPL0.out.bk.lt
 go_enter Tryz.func273,Tryz.ntmps273
 go_wp2
 go_loopw [14] (fun i wr=> ∃ (k:Nat) (cs:Array Value),k≤p.zB.length∧i= .int .i64 (k:Int)∧Plr w0 wr p.zB.length b bv bc A cv cc pv ordV (vE p cells frame ((xR p.zB).take k) vals) (updC (doneA p k) cells (vM p cells frame (vO p cells frame))) cs∧Trn [bv,bc] w wr) (fun i _=>p.zB.length - (intOf i).toNat)
 case atStart=>exact⟨0,cs,Nat.zero_le _,rfl,by rw[updA_zero];exact HPL0.out,Trn.refl _ _⟩
 case round=>
  obtain⟨k,cs,hk,rfl,hpl,htr⟩:=hrel
  have HPL:=hide hpl;have HTR:=hide htr;have HBW:=hide hpl.bel;clear hpl htr kb lb
  have kb:=(HBK.out _ _ _ _ HPL.out).cell;have lb:=HPL.out.bk.lt
  by_cases hlt:k<p.zB.length
  rotate_left
  ·
   obtain rfl:k=p.zB.length:=by omega
   have HPB:=hide (show Plr w0 wr p.zB.length b bv bc A cv cc pv ordV (vO p cells frame) (updC (doneB p 0) cells (vM p cells frame (vO p cells frame))) cs from by have h:=HPL.out;rw[HAll.out.1,List.take_of_length_le (by have:=HP.out.order;omega),HVA.out] at h;exact h)
   have HTR0:=HTR
   clear HPL HTR HBW
   go_wp2
   go_loopw [84] (fun i wr=> ∃ (k:Nat) (cs:Array Value),k≤p.zB.length∧i= .int .i64 (k:Int)∧Plr w0 wr p.zB.length b bv bc A cv cc pv ordV (vO p cells frame) (updC (doneB p k) cells (vM p cells frame (vO p cells frame))) cs∧Trn [bv,bc] w wr) (fun i _=>p.zB.length - (intOf i).toNat)
   case atStart=>exact⟨0,cs,Nat.zero_le _,rfl,HPB.out,HTR0.out⟩
   case round=>
    obtain⟨k,cs,hk,rfl,hpl,htr⟩:=hrel
    have HPL:=hide hpl;have HTR:=hide htr;have HBW:=hide hpl.bel;clear hpl htr kb lb
    have kb:=(HBK.out _ _ _ _ HPL.out).cell;have lb:=HPL.out.bk.lt
    by_cases hlt:k<p.zB.length
    rotate_left
    ·
     obtain rfl:k=p.zB.length:=by omega
     go_wp2
     go_end0
     exact⟨rfl,cs,by have h:=HPL.out;rw[HAll.out.2] at h;exact h,HTR.out⟩
    have hgx:=gE hlt
    generalize p.zB[k]=x at *
    have HGX:=hide hgx;clear hgx
    obtain⟨b1,off,cs1,hA,hb1,hcs,hcell⟩:=HX2.out k x HGX.out
    subst hA
    obtain⟨u3,rfl,hRY3⟩:=xJ.yO (show T.rds _ _ _ by simpa only[xJ.t,T.rd] using hcs)
    have d0:=(HBW.out.cell hb1).trans (hcell 0 (.int .i64 x.zD) rfl)
    have d1:=(HBW.out.cell hb1).trans (hcell 1 (.int .i64 x.fA) rfl)
    have d2:=(HBW.out.cell hb1).trans (hcell 2 (.int .i64 x.fB) rfl)
    have d3:=(HBW.out.cell hb1).trans (hcell 3 (u3) rfl)
    rw[show off+(k * 4+0)=off+k * 4 by omega] at d0
    rw[show off+(k * 4+1)=off+k * 4+1 by omega] at d1
    rw[show off+(k * 4+2)=off+k * 4+2 by omega] at d2
    rw[show off+(k * 4+3)=off+k * 4+3 by omega] at d3
    have RY3:=hide (T.yF hRY3 HBW.out);clear hRY3
    clear hcs hcell
    have RYi:=hide (T.yT.1 RY3.out);obtain⟨ua3,uc3,rfl,ul3,um3,ux3⟩:=RYi.out.open_;clear ux3
    have hq1:b1<wr.heap.size:=lL hb1 HBW.out.size
    have RYX:=hide (T.yF RY3.out (show Below wr.heap.size wr (wr.alloc (.cells #[.int .i64 x.zD,.int .i64 x.fA,.int .i64 x.fB,.slice ua3 x.zH.length uc3] 167)) from(Below.refl _ _).alloc (Nat.le_refl _) _))
    have HRX:=hide (show Below wr.heap.size wr (wr.alloc (.cells #[.int .i64 x.zD,.int .i64 x.fA,.int .i64 x.fB,.slice ua3 x.zH.length uc3] 167)) from(Below.refl _ _).alloc (Nat.le_refl _) _)
    have HPX:=hide (HPL.out.below HRX.out);have HNX:=hide (Bk.born wr 167 #[.int .i64 x.zD,.int .i64 x.fA,.int .i64 x.fB,.slice ua3 x.zH.length uc3]);have HTX:=hide (HTR.out.trans (Trn.of_below HRX.out))
    have hBX:wr.heap.size<(wr.alloc (.cells #[.int .i64 x.zD,.int .i64 x.fA,.int .i64 x.fB,.slice ua3 x.zH.length uc3] 167)).heap.size:=HNX.out.lt
    clear kb lb;have kb:=(HBK.out _ _ _ _ HPX.out).cell;have lb:=HPX.out.bk.lt;have kn:=HNX.out.cell;have ln:=HNX.out.lt
    obtain⟨tn,ty⟩:=HTG.out k x HGX.out
    have HTN:=hide tn;have HTY:=hide ty;clear tn ty
    by_cases h6:x.zD=6
    rotate_left
    ·
     have q0:(x.zD == 6)=false:=yR h6
     have HPN:=hide (show Plr w0 (wr.alloc (.cells #[.int .i64 x.zD,.int .i64 x.fA,.int .i64 x.fB,.slice ua3 x.zH.length uc3] 167)) p.zB.length b bv bc A cv cc pv ordV (vO p cells frame) (updC (doneB p (k+1)) cells (vM p cells frame (vO p cells frame))) cs by rw[HTN.out h6];exact HPX.out)
     clear h6
     go_wp2
     go_roundw
     case rel=>exact⟨k+1,cs,by omega,by go_num,HPN.out,HTX.out⟩
     case measure=>simp[intOf];omega
    have q0:(x.zD == 6)=true:=yS h6
    obtain⟨st,hcl,hst,hup⟩:=HTY.out h6
    have HUP:=hide hup;have HCL:=hide hcl;have HPI:=hide (play_in6 HP.out HS.out HFS.out HVF.out HGX.out hst h6);clear hup hst hcl
    obtain⟨sv,hsc,hsr,sn1,sn2⟩:=HPX.out.cel.each _ _ HCL.out
    have HSR:=hide hsr;obtain⟨sA,sc,rfl,sl1,sm1,sx1⟩:=hsr.open_;clear sx1
    have HSC:=hide ((HPX.out.cel.bk.cell k).trans hsc);clear hsr hsc
    have HN_:=hide (HP.out.formed.nodes k x HGX.out)
    clear h6
    go_wp2
    generalize hWX:(wr.alloc (.cells #[.int .i64 x.zD,.int .i64 x.fA,.int .i64 x.fB,.slice ua3 x.zH.length uc3] 167))=WX at *;clear hWX
    generalize hB1:wr.heap.size=B1 at *;clear kb lb kn ln
    have HPd:=hide HPX.out.drew;have HNd:=hide (Bk.drew HNX.out);have HSd:=hide (show RdI WX.drew (.slice sA st.length sc) st from RdI.below HSR.out (Below.refl WX.heap.size WX).drew);have HTd:=hide (trn_drew HTX.out);have HBd:=hide HPd.out.bel
    have HWd:=hide (show (∀ i,WX.drew.cell? ⟨b,i,none⟩= #[.int .i64 p.zJ,.slice va1 p.zN.length vc1,.slice (some ⟨b1,off,none⟩) p.zB.length vc2,.slice va3 p.zK.length vc3,.slice oA p.zB.length oc,.slice (some ⟨bv,0,none⟩) p.zB.length cv,.slice (some ⟨bc,0,none⟩) p.zB.length cc][i]?)∧(∀ i,WX.drew.cell? ⟨B1,i,none⟩= #[.int .i64 x.zD,.int .i64 x.fA,.int .i64 x.fB,.slice ua3 x.zH.length uc3][i]?)∧WX.drew.cell? ⟨bc,k,none⟩=some (.slice sA st.length sc) from⟨(HBK.out _ _ _ _ HPd.out).cell,HNd.out.cell,HSC.out⟩)
    have HYd:=hide (show T.rds WX.drew x.fs [.int .i64 x.zD,.int .i64 x.fA,.int .i64 x.fB,.slice ua3 x.zH.length uc3] from xJ.rd_mk (T.yF RYX.out (Below.refl WX.heap.size WX).drew))
    have HFd:=hide (show RdI WX.drew fv frame from rd_trn2 HF.out HTd.out HF1.out HF2.out)
    refine wK (fun w'=>(∀ i,w'.cell? ⟨b,i,none⟩= #[.int .i64 p.zJ,.slice va1 p.zN.length vc1,.slice (some ⟨b1,off,none⟩) p.zB.length vc2,.slice va3 p.zK.length vc3,.slice oA p.zB.length oc,.slice (some ⟨bv,0,none⟩) p.zB.length cv,.slice (some ⟨bc,0,none⟩) p.zB.length cc][i]?)∧(∀ i,w'.cell? ⟨B1,i,none⟩= #[.int .i64 x.zD,.int .i64 x.fA,.int .i64 x.fB,.slice ua3 x.zH.length uc3][i]?)∧w'.cell? ⟨bc,k,none⟩=some (.slice sA st.length sc)) 22 (by kernel_rfl) ?_ (fun hS0=>?_)
    ·exact HWd.out
    generalize hwd:WX.drew=wd at *;clear hwd
    refine tE 0 hS0 ?_
    refine tE 1 hS0 ?_
    refine tE 2 hS0 ?_
    refine tE 3 hS0 ?_
    refine tE 4 hS0 ?_
    refine tE 5 hS0 ?_
    refine tE 6 hS0 ?_
    refine tE 7 hS0 ?_
    refine tE 8 hS0 ?_
    refine tE 10 hS0 ?_
    refine tE 11 hS0 ?_
    refine tE 12 hS0 ?_
    refine tE 13 hS0 ?_
    refine tE 14 hS0 ?_
    refine tE 15 hS0 ?_
    refine tE 16 hS0 ?_
    have length_valsX:(vO p cells frame).length=p.zB.length:=length_valsF
    refine oE 9 (fun K hK=>?_)
    go_simp
    go_wp2_with (go_at_call 287;refine(c_inputs x _ b frame _ fv _ _ (fun e1=>⟨(xC.1 (by have ha:=HN_.out.1.a;rw[e1] at ha;simpa[kndF,kndL] using ha)).1,by rw[hfi];exact HN_.out.2.2 e1⟩) (by rw[length_valsX];exact HN_.out.2.1) (by have:=HN_.out.1.arity;have:=arity_few HN_.out.1;omega) (HWd.out.1 5) HFd.out (OwI.rd HPd.out.vals) HYd.out).mono ?_;rintro e w4 ⟨iv,rfl,ho,hb⟩)
    have HI4:=hide (OwI.rd ho);have HP4:=hide (HPd.out.below hb);have HN4:=hide (HNd.out.below hb HNd.out.lt);have HS4:=hide (RdI.below HSd.out hb);have HT4:=hide (HTd.out.trans (Trn.of_below hb));have HY4:=hide (T.rds_keep hb.size (fun _ h=>hb.block _ h) _ _ HYd.out);have HC4:=hide ((hb.cell HPd.out.cel.bk.lt).trans HWd.out.2.2)
    have HW4:=hide (show (∀ i,w4.cell? ⟨b,i,none⟩= #[.int .i64 p.zJ,.slice va1 p.zN.length vc1,.slice (some ⟨b1,off,none⟩) p.zB.length vc2,.slice va3 p.zK.length vc3,.slice oA p.zB.length oc,.slice (some ⟨bv,0,none⟩) p.zB.length cv,.slice (some ⟨bc,0,none⟩) p.zB.length cc][i]?)∧(∀ i,w4.cell? ⟨B1,i,none⟩= #[.int .i64 x.zD,.int .i64 x.fA,.int .i64 x.fB,.slice ua3 x.zH.length uc3][i]?)∧w4.cell? ⟨bc,k,none⟩=some (.slice sA st.length sc) from⟨(HBK.out _ _ _ _ HP4.out).cell,HN4.out.cell,HC4.out⟩);clear ho hb
    refine uE hK ?_ (fun hS1=>?_)
    ·exact HW4.out
    clear hK K hS0
    refine oE 17 (fun K hK=>?_)
    go_simp
    go_wp2_with (go_at_call 286;refine(c_step x _ [] _ st _ _ _ _ HPI.out (T.ow_rd _ _ _ (Own.nil 0 _ _ 1).ow) HI4.out HS4.out HY4.out).mono ?_;rintro e w5 ⟨nv,rfl,ho,hb⟩)
    have HO5:=hide (OwI.rd ho);have HL5:=hide ho.lt;have HP5:=hide (HP4.out.below hb);have HN5:=hide (HN4.out.below hb HN4.out.lt);have HT5:=hide (HT4.out.trans (Trn.of_below hb));have HC5:=hide ((hb.cell HP4.out.cel.bk.lt).trans HW4.out.2.2)
    have HNE:=hide (show (∀ q ∈ A,nv.ownBlock≠some q)∧ ∀ k,nv.ownBlock=some k→k<w5.heap.size from⟨fun q hq e=>absurd (ho.lt _ e).1 (by have:=HP4.out.alt q hq;omega),fun k hk=>(ho.lt k hk).2⟩)
    have HW5:=hide (show (∀ i,w5.cell? ⟨b,i,none⟩= #[.int .i64 p.zJ,.slice va1 p.zN.length vc1,.slice (some ⟨b1,off,none⟩) p.zB.length vc2,.slice va3 p.zK.length vc3,.slice oA p.zB.length oc,.slice (some ⟨bv,0,none⟩) p.zB.length cv,.slice (some ⟨bc,0,none⟩) p.zB.length cc][i]?)∧(∀ i,w5.cell? ⟨B1,i,none⟩= #[.int .i64 x.zD,.int .i64 x.fA,.int .i64 x.fB,.slice ua3 x.zH.length uc3][i]?)∧w5.cell? ⟨bc,k,none⟩=some (.slice sA st.length sc) from⟨(HBK.out _ _ _ _ HP5.out).cell,HN5.out.cell,HC5.out⟩);clear ho hb
    refine uE hK ?_ (fun hS2=>?_)
    ·exact HW5.out
    clear hK K hS1
    refine tE 18 hS2 ?_
    refine tE 19 hS2 ?_
    refine tE 20 hS2 ?_
    refine tE 21 hS2 ?_
    refine wJ (o:=_) (by kernel_rfl) rfl (by kernel_rfl) ?_
    obtain⟨nA,nl,nc,rfl⟩: ∃ A l c,nv= .slice A l c:=by obtain⟨A,c,e,_⟩:=HO5.out.open_;exact⟨A,_,c,e⟩
    have ck:=HW5.out.2.2;have fr:=HP5.out.cel.bk.free k;have lc:=HP5.out.cel.bk.lt
    go_wp2
    have HP6:=hide (HP5.out.setC HCL.out HO5.out HNE.out.1 HNE.out.2);have HT6:=hide (HT5.out.trans (Trn.set_ (g:=bc) (by simp) k (.slice nA nl nc)))
    go_roundw
    case rel=>exact⟨k+1,_,by omega,by go_num,by rw[HUP.out];exact HP6.out,HT6.out⟩
    case measure=>simp[intOf];omega
  have hgo:=gE (show k<(xR p.zB).length by have:=HP.out.order;omega)
  obtain⟨i,hi⟩: ∃ i,(xR p.zB)[k]'(by have:=HP.out.order;omega)=i:=⟨_,rfl⟩
  rw[hi] at hgo;clear hi
  have HGO:=hide hgo;clear hgo
  obtain⟨x,st,hi0,hin,hx,hst,hcl,hva,hno,hye⟩:=HTF.out k i HGO.out
  have HGX:=hide hx;have HCL:=hide hcl;have HVN:=hide hva;have HNO:=hide hno;have HYE:=hide hye;clear hx hcl hva hno hye
  obtain⟨bo,oo,hoA,hbo,hco⟩:=HXO.out k i HGO.out
  subst hoA
  have co:=(HBW.out.cell hbo).trans hco;have lo_:bo<wr.heap.size:=lL hbo HBW.out.size;clear hco
  have hin2:i<(p.zB.length:Int):=by omega
  obtain⟨b1,off,cs1,hA,hb1,hcs,hcell⟩:=HX2.out i.toNat x HGX.out
  subst hA
  obtain⟨u3,rfl,hRY3⟩:=xJ.yO (show T.rds _ _ _ by simpa only[xJ.t,T.rd] using hcs)
  have d0:=(HBW.out.cell hb1).trans (hcell 0 (.int .i64 x.zD) rfl)
  have d1:=(HBW.out.cell hb1).trans (hcell 1 (.int .i64 x.fA) rfl)
  have d2:=(HBW.out.cell hb1).trans (hcell 2 (.int .i64 x.fB) rfl)
  have d3:=(HBW.out.cell hb1).trans (hcell 3 (u3) rfl)
  rw[show off+(i.toNat * 4+0)=off+i.toNat * 4 by omega] at d0
  rw[show off+(i.toNat * 4+1)=off+i.toNat * 4+1 by omega] at d1
  rw[show off+(i.toNat * 4+2)=off+i.toNat * 4+2 by omega] at d2
  rw[show off+(i.toNat * 4+3)=off+i.toNat * 4+3 by omega] at d3
  have RY3:=hide (T.yF hRY3 HBW.out);clear hRY3
  clear hcs hcell
  have RYi:=hide (T.yT.1 RY3.out);obtain⟨ua3,uc3,rfl,ul3,um3,ux3⟩:=RYi.out.open_;clear ux3
  have hq1:b1<wr.heap.size:=lL hb1 HBW.out.size
  have hvl_:(vE p cells frame ((xR p.zB).take k) vals).length=p.zB.length:=by rw[uC,HVL.out]
  have HVK:=hide (HVO.out ((xR p.zB).take k) vals HVS.out)
  have HPI:=hide (play_in HP.out HS.out HFS.out HVK.out HGX.out hst);clear hst
  generalize hVK:vE p cells frame ((xR p.zB).take k) vals=VK at *
  have RYX:=hide (T.yF RY3.out (show Below wr.heap.size wr (wr.alloc (.cells #[.int .i64 x.zD,.int .i64 x.fA,.int .i64 x.fB,.slice ua3 x.zH.length uc3] 167)) from(Below.refl _ _).alloc (Nat.le_refl _) _))
  have HRX:=hide (show Below wr.heap.size wr (wr.alloc (.cells #[.int .i64 x.zD,.int .i64 x.fA,.int .i64 x.fB,.slice ua3 x.zH.length uc3] 167)) from(Below.refl _ _).alloc (Nat.le_refl _) _)
  have HPX:=hide (HPL.out.below HRX.out);have HNX:=hide (Bk.born wr 167 #[.int .i64 x.zD,.int .i64 x.fA,.int .i64 x.fB,.slice ua3 x.zH.length uc3]);have HTX:=hide (HTR.out.trans (Trn.of_below HRX.out))
  have hBX:wr.heap.size<(wr.alloc (.cells #[.int .i64 x.zD,.int .i64 x.fA,.int .i64 x.fB,.slice ua3 x.zH.length uc3] 167)).heap.size:=HNX.out.lt
  have kbX:=(HBK.out _ _ _ _ HPX.out).cell;have lbX:=HPX.out.bk.lt;have kn:=HNX.out.cell;have ln:=HNX.out.lt
  obtain⟨sv,hsc,hsr,sn1,sn2⟩:=HPX.out.cel.each _ _ HCL.out
  have HSR:=hide hsr;obtain⟨sA,sc,rfl,sl1,sm1,sx1⟩:=hsr.open_;clear sx1
  have HSC:=hide ((HPX.out.cel.bk.cell i.toNat).trans hsc);clear hsr hsc
  have HN_:=hide (HP.out.formed.nodes i.toNat x HGX.out)
  by_cases h6:x.zD=6
  ·
   have q0:(x.zD == 6)=true:=yS h6
   obtain⟨hup,hou,hst0⟩:=HYE.out h6
   obtain⟨y0,hy0⟩: ∃ y0,st[0]?=some y0:=⟨_,gE hst0⟩
   have HUP:=hide hup;have HOU:=hide (show xW x p.zN (inF x frame VK) st=y0 by rw[hou,List.getD_eq_getElem?_getD,hy0];rfl)
   obtain⟨bs,os,cs_,hsv,_,_,hbs,hcs0⟩:=xO HSR.out hst0
   injection hsv with e1 _ e3;subst e1 e3
   have hy1:=hcs0 0 y0 hy0;rw[Nat.add_zero] at hy1;have HY0:=hide hy1;clear hcs0 hup hou hy0 hy1
   clear h6
   go_wp2
   generalize hWX:(wr.alloc (.cells #[.int .i64 x.zD,.int .i64 x.fA,.int .i64 x.fB,.slice ua3 x.zH.length uc3] 167))=WX at *;clear hWX
   clear kb lb kbX lbX kn ln co
   have HPd:=hide HPX.out.drew;have HTd:=hide (trn_drew HTX.out)
   have HWd:=hide (show (∀ j,WX.drew.cell? ⟨b,j,none⟩= #[.int .i64 p.zJ,.slice va1 p.zN.length vc1,.slice (some ⟨b1,off,none⟩) p.zB.length vc2,.slice va3 p.zK.length vc3,.slice (some ⟨bo,oo,none⟩) p.zB.length oc,.slice (some ⟨bv,0,none⟩) p.zB.length cv,.slice (some ⟨bc,0,none⟩) p.zB.length cc][j]?)∧WX.drew.cell? ⟨bc,i.toNat,none⟩=some (.slice (some ⟨bs,os,none⟩) st.length sc)∧WX.drew.cell? ⟨bs,os,none⟩=some (.int .i64 y0) from⟨(HBK.out _ _ _ _ HPd.out).cell,HSC.out,HY0.out⟩)
   refine wK (fun w'=>(∀ j,w'.cell? ⟨b,j,none⟩= #[.int .i64 p.zJ,.slice va1 p.zN.length vc1,.slice (some ⟨b1,off,none⟩) p.zB.length vc2,.slice va3 p.zK.length vc3,.slice (some ⟨bo,oo,none⟩) p.zB.length oc,.slice (some ⟨bv,0,none⟩) p.zB.length cv,.slice (some ⟨bc,0,none⟩) p.zB.length cc][j]?)∧w'.cell? ⟨bc,i.toNat,none⟩=some (.slice (some ⟨bs,os,none⟩) st.length sc)∧w'.cell? ⟨bs,os,none⟩=some (.int .i64 y0)) 15 (by kernel_rfl) ?_ (fun hS0=>?_)
   ·exact HWd.out
   generalize hwd:WX.drew=wd at *;clear hwd
   refine tE 0 hS0 ?_
   refine tE 1 hS0 ?_
   refine tE 2 hS0 ?_
   refine tE 3 hS0 ?_
   refine tE 4 hS0 ?_
   refine tE 5 hS0 ?_
   refine tE 6 hS0 ?_
   refine tE 7 hS0 ?_
   refine tE 8 hS0 ?_
   refine tE 9 hS0 ?_
   refine tE 10 hS0 ?_
   refine tE 11 hS0 ?_
   refine tE 12 hS0 ?_
   refine tE 13 hS0 ?_
   refine tE 14 hS0 ?_
   refine wJ (o:=_) (by kernel_rfl) rfl (by kernel_rfl) ?_
   have hgv:=gE (show i.toNat<VK.length by omega)
   have ck:=HPd.out.vals.cellN hgv;have fr:=HPd.out.vals.freeN i.toNat;have lv:=(HPd.out.vals.lt bv rfl).2
   go_wp2
   have HP6:=hide (HPd.out.setV i.toNat y0);have HT6:=hide (HTd.out.trans (Trn.set_ (g:=bv) (by simp) i.toNat (.int .i64 y0)))
   go_roundw
   case rel=>exact⟨k+1,cs,by omega,by go_num,by rw[HUP.out,HVN.out,HOU.out];exact HP6.out,HT6.out⟩
   case measure=>simp[intOf];omega
  have q0:(x.zD == 6)=false:=yR h6
  have HUP:=hide (HNO.out h6)
  clear h6
  go_wp2
  generalize hWX:(wr.alloc (.cells #[.int .i64 x.zD,.int .i64 x.fA,.int .i64 x.fB,.slice ua3 x.zH.length uc3] 167))=WX at *;clear hWX
  generalize hB1:wr.heap.size=B1 at *;clear kb lb kbX lbX kn ln co
  have HPd:=hide HPX.out.drew;have HNd:=hide (Bk.drew HNX.out);have HSd:=hide (show RdI WX.drew (.slice sA st.length sc) st from RdI.below HSR.out (Below.refl WX.heap.size WX).drew);have HTd:=hide (trn_drew HTX.out);have HBd:=hide HPd.out.bel
  have HWd:=hide (show (∀ i,WX.drew.cell? ⟨b,i,none⟩= #[.int .i64 p.zJ,.slice va1 p.zN.length vc1,.slice (some ⟨b1,off,none⟩) p.zB.length vc2,.slice va3 p.zK.length vc3,.slice (some ⟨bo,oo,none⟩) p.zB.length oc,.slice (some ⟨bv,0,none⟩) p.zB.length cv,.slice (some ⟨bc,0,none⟩) p.zB.length cc][i]?)∧(∀ i,WX.drew.cell? ⟨B1,i,none⟩= #[.int .i64 x.zD,.int .i64 x.fA,.int .i64 x.fB,.slice ua3 x.zH.length uc3][i]?)∧WX.drew.cell? ⟨bc,i.toNat,none⟩=some (.slice sA st.length sc) from⟨(HBK.out _ _ _ _ HPd.out).cell,HNd.out.cell,HSC.out⟩)
  have HYd:=hide (show T.rds WX.drew x.fs [.int .i64 x.zD,.int .i64 x.fA,.int .i64 x.fB,.slice ua3 x.zH.length uc3] from xJ.rd_mk (T.yF RYX.out (Below.refl WX.heap.size WX).drew))
  have HFd:=hide (show RdI WX.drew fv frame from rd_trn2 HF.out HTd.out HF1.out HF2.out)
  refine wK (fun w'=>(∀ i,w'.cell? ⟨b,i,none⟩= #[.int .i64 p.zJ,.slice va1 p.zN.length vc1,.slice (some ⟨b1,off,none⟩) p.zB.length vc2,.slice va3 p.zK.length vc3,.slice (some ⟨bo,oo,none⟩) p.zB.length oc,.slice (some ⟨bv,0,none⟩) p.zB.length cv,.slice (some ⟨bc,0,none⟩) p.zB.length cc][i]?)∧(∀ i,w'.cell? ⟨B1,i,none⟩= #[.int .i64 x.zD,.int .i64 x.fA,.int .i64 x.fB,.slice ua3 x.zH.length uc3][i]?)∧w'.cell? ⟨bc,i.toNat,none⟩=some (.slice sA st.length sc)) 34 (by kernel_rfl) ?_ (fun hS0=>?_)
  ·exact HWd.out
  generalize hwd:WX.drew=wd at *;clear hwd
  refine tE 0 hS0 ?_
  refine tE 1 hS0 ?_
  refine tE 2 hS0 ?_
  refine tE 3 hS0 ?_
  refine tE 4 hS0 ?_
  refine tE 5 hS0 ?_
  refine tE 6 hS0 ?_
  refine tE 7 hS0 ?_
  refine tE 8 hS0 ?_
  refine tE 9 hS0 ?_
  refine tE 10 hS0 ?_
  refine tE 11 hS0 ?_
  refine tE 12 hS0 ?_
  refine tE 13 hS0 ?_
  refine tE 14 hS0 ?_
  refine tE 15 hS0 ?_
  refine tE 16 hS0 ?_
  refine tE 17 hS0 ?_
  refine tE 18 hS0 ?_
  refine tE 20 hS0 ?_
  refine tE 21 hS0 ?_
  refine tE 22 hS0 ?_
  refine tE 23 hS0 ?_
  refine tE 24 hS0 ?_
  refine tE 25 hS0 ?_
  refine tE 26 hS0 ?_
  have length_valsX:VK.length=p.zB.length:=hvl_
  refine oE 19 (fun K hK=>?_)
  go_simp
  go_wp2_with (go_at_call 287;refine(c_inputs x _ b frame _ fv _ _ (fun e1=>⟨(xC.1 (by have ha:=HN_.out.1.a;rw[e1] at ha;simpa[kndF,kndL] using ha)).1,by rw[hfi];exact HN_.out.2.2 e1⟩) (by rw[length_valsX];exact HN_.out.2.1) (by have:=HN_.out.1.arity;have:=arity_few HN_.out.1;omega) (HWd.out.1 5) HFd.out (OwI.rd HPd.out.vals) HYd.out).mono ?_;rintro e w4 ⟨iv,rfl,ho,hb⟩)
  have HI4:=hide (OwI.rd ho);have HP4:=hide (HPd.out.below hb);have HN4:=hide (HNd.out.below hb HNd.out.lt);have HS4:=hide (RdI.below HSd.out hb);have HT4:=hide (HTd.out.trans (Trn.of_below hb));have HY4:=hide (T.rds_keep hb.size (fun _ h=>hb.block _ h) _ _ HYd.out);have HC4:=hide ((hb.cell HPd.out.cel.bk.lt).trans HWd.out.2.2)
  have HW4:=hide (show (∀ i,w4.cell? ⟨b,i,none⟩= #[.int .i64 p.zJ,.slice va1 p.zN.length vc1,.slice (some ⟨b1,off,none⟩) p.zB.length vc2,.slice va3 p.zK.length vc3,.slice (some ⟨bo,oo,none⟩) p.zB.length oc,.slice (some ⟨bv,0,none⟩) p.zB.length cv,.slice (some ⟨bc,0,none⟩) p.zB.length cc][i]?)∧(∀ i,w4.cell? ⟨B1,i,none⟩= #[.int .i64 x.zD,.int .i64 x.fA,.int .i64 x.fB,.slice ua3 x.zH.length uc3][i]?)∧w4.cell? ⟨bc,i.toNat,none⟩=some (.slice sA st.length sc) from⟨(HBK.out _ _ _ _ HP4.out).cell,HN4.out.cell,HC4.out⟩);clear ho hb
  refine uE hK ?_ (fun hS1=>?_)
  ·exact HW4.out
  clear hK K hS0
  refine oE 27 (fun K hK=>?_)
  go_simp
  go_wp2_with (go_at_call 286;refine(c_step x _ p.zN _ st _ _ _ _ HPI.out (T.yF R1.out HP4.out.bel) HI4.out HS4.out HY4.out).mono ?_;rintro e w5 ⟨nv,rfl,ho,hb⟩)
  have HO5:=hide (OwI.rd ho);have HL5:=hide ho.lt;have HP5:=hide (HP4.out.below hb);have HN5:=hide (HN4.out.below hb HN4.out.lt);have HT5:=hide (HT4.out.trans (Trn.of_below hb));have HC5:=hide ((hb.cell HP4.out.cel.bk.lt).trans HW4.out.2.2)
  have HNE:=hide (show (∀ q ∈ A,nv.ownBlock≠some q)∧ ∀ k,nv.ownBlock=some k→k<w5.heap.size from⟨fun q hq e=>absurd (ho.lt _ e).1 (by have:=HP4.out.alt q hq;omega),fun k hk=>(ho.lt k hk).2⟩)
  have HW5:=hide (show (∀ i,w5.cell? ⟨b,i,none⟩= #[.int .i64 p.zJ,.slice va1 p.zN.length vc1,.slice (some ⟨b1,off,none⟩) p.zB.length vc2,.slice va3 p.zK.length vc3,.slice (some ⟨bo,oo,none⟩) p.zB.length oc,.slice (some ⟨bv,0,none⟩) p.zB.length cv,.slice (some ⟨bc,0,none⟩) p.zB.length cc][i]?)∧(∀ i,w5.cell? ⟨B1,i,none⟩= #[.int .i64 x.zD,.int .i64 x.fA,.int .i64 x.fB,.slice ua3 x.zH.length uc3][i]?)∧w5.cell? ⟨bc,i.toNat,none⟩=some (.slice sA st.length sc) from⟨(HBK.out _ _ _ _ HP5.out).cell,HN5.out.cell,HC5.out⟩);clear ho hb
  refine uE hK ?_ (fun hS2=>?_)
  ·exact HW5.out
  clear hK K hS1
  refine tE 28 hS2 ?_
  refine tE 29 hS2 ?_
  refine tE 30 hS2 ?_
  refine tE 31 hS2 ?_
  have hgv:=gE (show i.toNat<VK.length by omega)
  have ck:=HP5.out.vals.cellN hgv;have fr:=HP5.out.vals.freeN i.toNat;have lv:=(HP5.out.vals.lt bv rfl).2;clear hgv
  have HP6:=hide (HP5.out.setV i.toNat (xW x p.zN (inF x frame VK) st));have HT6:=hide (HT5.out.trans (Trn.set_ (g:=bv) (by simp) i.toNat (.int .i64 (xW x p.zN (inF x frame VK) st))))
  have HN6:=hide (HN5.out.far (p:=⟨bv,i.toNat,none⟩) (show B1≠bv by have h:=(HPL.out.vals.lt bv rfl).2;omega) (.int .i64 (xW x p.zN (inF x frame VK) st)));have HO6:=hide (RdI.grown HO5.out ((Gr.refl bv w5).set_ i.toNat (.int .i64 (xW x p.zN (inF x frame VK) st))).1 (fun b hb e=>HNE.out.1 bv HP5.out.av (hb.trans e)))
  obtain⟨nA,nl,nc,rfl⟩: ∃ A l c,nv= .slice A l c:=by obtain⟨A,c,e,_⟩:=HO5.out.open_;exact⟨A,_,c,e⟩
  have HC6:=hide ((HP6.out.cel.bk.cell i.toNat).trans ((HP5.out.cel.bk.cell i.toNat).symm.trans HW5.out.2.2))
  obtain⟨w6,hw6⟩: ∃ w6,w6=(w5.setCell ⟨bv,i.toNat,none⟩ (.int .i64 (xW x p.zN (inF x frame VK) st))):=⟨_,rfl⟩
  rw[←hw6] at HP6 HN6 HO6 HT6 HC6
  have HW6:=hide (show (∀ i,w6.cell? ⟨b,i,none⟩= #[.int .i64 p.zJ,.slice va1 p.zN.length vc1,.slice (some ⟨b1,off,none⟩) p.zB.length vc2,.slice va3 p.zK.length vc3,.slice (some ⟨bo,oo,none⟩) p.zB.length oc,.slice (some ⟨bv,0,none⟩) p.zB.length cv,.slice (some ⟨bc,0,none⟩) p.zB.length cc][i]?)∧(∀ i,w6.cell? ⟨B1,i,none⟩= #[.int .i64 x.zD,.int .i64 x.fA,.int .i64 x.fB,.slice ua3 x.zH.length uc3][i]?)∧w6.cell? ⟨bc,i.toNat,none⟩=some (.slice sA st.length sc) from⟨(HBK.out _ _ _ _ HP6.out).cell,HN6.out.cell,HC6.out⟩)
  have hz6:w6.heap.size=w5.heap.size:=by rw[hw6];simp[World.setCell]
  have HZ6:=hide hz6;clear hz6
  subst hw6
  refine oE 32 (fun K hK=>?_)
  go_simp
  refine uE hK ?_ (fun hS3=>?_)
  ·exact HW6.out
  clear hK K hS2
  refine tE 33 hS3 ?_
  refine wJ (o:=_) (by kernel_rfl) rfl (by kernel_rfl) ?_
  have ck2:=HW6.out.2.2;have fr2:=HP6.out.cel.bk.free i.toNat;have lc2:=HP6.out.cel.bk.lt
  clear ck fr lv
  go_wp2
  have HP7:=hide (HP6.out.setC HCL.out HO6.out HNE.out.1 (fun q hq=>by rw[HZ6.out];exact HNE.out.2 q hq));have HT7:=hide (HT6.out.trans (Trn.set_ (g:=bc) (by simp) i.toNat (.slice nA nl nc)))
  go_roundw
  case rel=>exact⟨k+1,_,by omega,by go_num,by rw[HUP.out,HVN.out];exact HP7.out,HT7.out⟩
  case measure=>simp[intOf];omega
end
end Go.Proofs.YtoibekfhepnedaaGreat
