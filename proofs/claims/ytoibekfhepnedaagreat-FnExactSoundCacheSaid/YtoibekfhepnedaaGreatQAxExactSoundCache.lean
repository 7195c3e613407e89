/- Playing a patch stays within samples; states after some nodes. Contract: what a node without state gives out, by the program. -/
import Derived.Test.YtoibekfhepnedaaGreatQAwExactSoundCache
import Derived.Test.YtoibekfhepnedaaGreatQAiExactSoundCache
set_option linter.unusedVariables false
set_option linter.unusedSimpArgs false
set_option maxHeartbeats 8000000
set_option maxRecDepth 100000
section
namespace Go.Proofs.YtoibekfhepnedaaGreat
open Go.RowKit
theorem smp_zero:Smp 0:=⟨by decide,by decide⟩
theorem smp_getD {l:List Int} (h: ∀ y ∈ l,Smp y) (i:Nat):Smp (l.getD i 0):=by
 rw[List.getD_eq_getElem?_getD]
 cases hg:l[i]? with
 |none=>exact smp_zero
 |some y=>exact h y (List.mem_of_getElem? hg)
theorem pow2_pos (k:Nat):(1:Int)≤((2 ^ k:Nat):Int):=by
 have:0<2 ^ k:=Nat.pow_pos (by decide)
 omega
theorem ediv_smp {a:Int} (h:Smp a) {m:Int} (hm:1≤m):Smp (a / m):=by
 unfold Smp at *
 have h1:a / m * m≤a:=Int.ediv_mul_le a (by omega)
 constructor
 ·exact Int.le_ediv_of_mul_le (by omega) (by omega)
 ·have h2:a / m<2147483648:=Int.ediv_lt_of_lt_mul (by omega) (by omega)
  omega
theorem look_smp {t:List Int} (h: ∀ y ∈ t,Smp y) (a:Int):Smp (lookF t a):=smp_getD h _
section
variable {x:GNode} {tables:List (List Int)} {ins st:List Int}
theorem tab_smp (h:TablesOk tables) (j:Nat): ∀ y ∈ tables.getD j [],Smp y:=by
 rw[List.getD_eq_getElem?_getD]
 cases hg:tables[j]? with
 |none=>simp
 |some t=>exact smpB_true.1 (h.each j t hg).2
theorem node_range {n:Int} (h:NodeOk x n) (k:Int) (e:x.zD=k) {lo hi:Int} (h1:(kndF k).low=lo) (h2:(kndF k).high=hi) (h3:lo≤hi):lo≤x.fA∧x.fA≤hi:=by
 have ha:=h.a
 rw[e,h1,h2,if_pos h3] at ha
 exact yZ.1 ha
theorem node_a {n:Int} (h:NodeOk x n) (hk:x.zD=2∨x.zD=11∨x.zD=12∨x.zD=14):Smp x.fA:=by
 unfold Smp
 rcases hk with e|e|e|e
 ·have:=node_range h 2 e (lo:= -2147483648) (hi:=2147483647) rfl rfl (by decide);omega
 ·have:=node_range h 11 e (lo:=0) (hi:=2147483647) rfl rfl (by decide);omega
 ·have:=node_range h 12 e (lo:= -2147483648) (hi:=2147483647) rfl rfl (by decide);omega
 ·have:=node_range h 14 e (lo:= -2147483648) (hi:=2147483647) rfl rfl (by decide);omega
theorem ite_smp {c:Prop} [Decidable c] {a b:Int} (h1:c→Smp a) (h2: ¬ c→Smp b):Smp (if c then a else b):=by
 by_cases h:c
 ·rw[if_pos h];exact h1 h
 ·rw[if_neg h];exact h2 h
theorem outF_smp (h:PlayIn x tables ins st):Smp (outF x tables ins st):=by
 have hi:=fun i=>smp_getD h.ins_ i
 have hs:=fun i=>smp_getD h.st_ i
 unfold outF
 refine ite_smp (fun _=>hi 0) fun _=>?_
 refine ite_smp (fun e=>node_a h.ok (.inl e)) fun _=>?_
 refine ite_smp (fun _=>wrp_smp _) fun _=>?_
 refine ite_smp (fun _=>wrp_smp _) fun _=>?_
 refine ite_smp (fun _=>wrp_smp _) fun _=>?_
 refine ite_smp (fun _=>hs 0) fun _=>?_
 refine ite_smp (fun _=>wrp_smp _) fun _=>?_
 refine ite_smp (fun _=>wrp_smp _) fun _=>?_
 refine ite_smp (fun _=>wrp_smp _) fun _=>?_
 refine ite_smp (fun _=>ediv_smp (hi 0) (pow2_pos _)) fun _=>?_
 refine ite_smp (fun e=>?_) fun _=>?_
 ·have h1:=node_range h.ok 11 e (lo:=0) (hi:=2147483647) rfl rfl (by decide)
  have h2:=hi 0
  unfold Smp at *
  omega
 refine ite_smp (fun _=>hs 0) fun _=>?_
 refine ite_smp (fun _=>look_smp (tab_smp h.tabs _) _) fun _=>?_
 refine ite_smp (fun _=>hs 0) fun _=>?_
 refine ite_smp (fun _=>ite_smp (fun _=>hi 1) fun _=>hi 2) fun _=>?_
 refine ite_smp (fun _=>ite_smp (fun _=>hi 0) fun _=>hs 0) fun _=>?_
 exact wrp_smp _
theorem noise_smp (s:Int):Smp (noiseF s):=by
 unfold noiseF
 split<;>exact wrp_smp _
theorem drop1_smp (h: ∀ y ∈ st,Smp y) {z:Int} (hz:Smp z): ∀ y ∈ st.drop 1++ [z],Smp y:=by
 intro y hy
 rcases List.mem_append.1 hy with hy|hy
 ·exact h y (List.mem_of_mem_drop hy)
 ·simp at hy;subst hy;exact hz
theorem nextSt_ok (h:PlayIn x tables ins st) {out:Int} (ho:Smp out):(nextSt x ins st out).length=(startSt x).length∧ ∀ y ∈ nextSt x ins st out,Smp y:=by
 have hi:=fun i=>smp_getD h.ins_ i
 have hl:=h.state
 have ha:=h.ok.a;have hb:=h.ok.b
 have hk:=yZ.1 h.ok.kind
 have one: ∀ {z:Int},Smp z→ ∀ y ∈ [z],Smp y:=fun hz y hy=>by simp at hy;subst hy;exact hz
 by_cases e6:x.zD=6
 ·have h1:=node_range h.ok 6 e6 (lo:=1) (hi:=16) rfl rfl (by decide)
  unfold startSt at hl ⊢
  unfold nextSt
  rw[if_pos e6] at hl ⊢
  rw[if_pos e6]
  rw[List.length_replicate] at hl ⊢
  refine⟨?_,drop1_smp h.st_ (hi 0)⟩
  rw[List.length_append,List.length_drop,List.length_singleton]
  omega
 by_cases e17:x.zD=17
 ·have h1:1≤x.fB∧x.fB≤16:=by
   rw[e17,if_pos (by rfl)] at hb
   exact yZ.1 hb
  unfold startSt at hl ⊢
  unfold nextSt
  rw[if_neg e6,if_pos e17] at hl ⊢
  rw[if_neg e6,if_pos e17]
  rw[List.length_replicate] at hl ⊢
  refine⟨?_,drop1_smp h.st_ ho⟩
  rw[List.length_append,List.length_drop,List.length_singleton]
  omega
 by_cases e7:x.zD=7
 ·unfold startSt nextSt;simp[e7];exact ho
 by_cases e16:x.zD=16
 ·unfold startSt nextSt;simp[e16];exact ho
 by_cases e8:x.zD=8
 ·unfold startSt nextSt;simp[e8];have:=hi 0;rwa [List.getD_eq_getElem?_getD] at this
 by_cases e12:x.zD=12
 ·unfold startSt nextSt;simp[e12];exact wrp_smp _
 by_cases e14:x.zD=14
 ·unfold startSt nextSt;simp[e14];exact noise_smp _
 ·unfold startSt nextSt;simp[e6,e7,e8,e12,e14,e16,e17]
end
/-- A state of a patch. -/
structure StOk (p:GPatch) (cells:List (List Int)):Prop where
 len:cells.length=p.zB.length
 each: ∀ (i:Nat) (x:GNode) (st:List Int),p.zB[i]?=some x→cells[i]?=some st→st.length=(startSt x).length∧ ∀ y ∈ st,Smp y
theorem start_smp {x:GNode} {n:Int} (h:NodeOk x n): ∀ y ∈ startSt x,Smp y:=by
 unfold startSt
 have rep: ∀ n,∀ y ∈ List.replicate n (0:Int),Smp y:=fun n y hy=>by rw[(List.mem_replicate.1 hy).2];exact smp_zero
 split
 ·exact rep _
 split
 ·exact rep _
 split
 ·intro y hy;simp at hy;subst hy;exact smp_zero
 split
 ·next e=>
  intro y hy
  simp at hy
  subst hy
  rcases e with e|e
  ·exact node_a h (.inr (.inr (.inl e)))
  ·exact node_a h (.inr (.inr (.inr e)))
 ·simp
theorem st_start {p:GPatch} (h:PatchOk p):StOk p (p.zB.map startSt):=by
 refine⟨by simp,fun i x st hx hs=>?_⟩
 rw[List.getElem?_map,hx] at hs
 injection hs with hs
 subst hs
 exact⟨rfl,start_smp (h.formed.nodes i x hx).1⟩
section
variable {p:GPatch} {cells:List (List Int)} {frame vals:List Int}
theorem inF_smp {n:GNode} (hf: ∀ y ∈ frame,Smp y) (hv: ∀ y ∈ vals,Smp y): ∀ y ∈ inF n frame vals,Smp y:=by
 unfold inF
 split
 ·intro y hy;simp at hy;subst hy;have:=smp_getD hf n.fA.toNat;rwa [List.getD_eq_getElem?_getD] at this
 ·intro y hy
  obtain⟨i,_,rfl⟩:=List.mem_map.1 hy
  exact smp_getD hv _
theorem play_in (h:PatchOk p) (hs:StOk p cells) (hf: ∀ y ∈ frame,Smp y) (hv: ∀ y ∈ vals,Smp y) {i:Nat} {x:GNode} {st:List Int} (hx:p.zB[i]?=some x) (hst:cells[i]?=some st):PlayIn x p.zM (inF x frame vals) st:=by
 obtain⟨h1,_,_⟩:=h.formed.nodes i x hx
 obtain⟨h4,h5⟩:=hs.each i x st hx hst
 refine⟨h1,h.formed.tables,?_,h4,inF_smp hf hv,h5⟩
 unfold inF
 split
 ·rfl
 ·have:=h1.arity
  rw[List.length_map]
  omega
theorem st_get (hs:StOk p cells) {i:Nat} {x:GNode} (hx:p.zB[i]?=some x): ∃ st,cells[i]?=some st∧cells.getD i []=st:=by
 have hi:i<cells.length:=by rw[hs.len];exact(List.getElem?_eq_some_iff.1 hx).1
 have hg:=List.getElem?_eq_getElem hi
 exact⟨_,hg,by rw[List.getD_eq_getElem?_getD,hg];rfl⟩
theorem smp_set {l:List Int} (h: ∀ y ∈ l,Smp y) {i:Nat} {z:Int} (hz:Smp z): ∀ y ∈ l.set i z,Smp y:=by
 intro y hy
 rcases List.mem_or_eq_of_mem_set hy with h1|h1
 ·exact h y h1
 ·subst h1;exact hz
theorem valStep_smp (h:PatchOk p) (hs:StOk p cells) (hf: ∀ y ∈ frame,Smp y) (hv: ∀ y ∈ vals,Smp y) (i:Int): ∀ y ∈ valStep p cells frame vals i,Smp y:=by
 unfold valStep
 split
 ·next x hx=>
  obtain⟨st,h1,h2⟩:=st_get hs hx
  rw[h2]
  exact smp_set hv (outF_smp (play_in h hs hf hv hx h1))
 ·exact hv
theorem valsOf_smp (h:PatchOk p) (hs:StOk p cells) (hf: ∀ y ∈ frame,Smp y): ∀ (l:List Int) (v:List Int),(∀ y ∈ v,Smp y)→ ∀ y ∈ valsOf p cells frame l v,Smp y
 | [],v,hv=>hv
 |i :: l,v,hv=>valsOf_smp h hs hf l (valStep p cells frame v i) (valStep_smp h hs hf hv i)
theorem valsF_smp (h:PatchOk p) (hs:StOk p cells) (hf: ∀ y ∈ frame,Smp y): ∀ y ∈ valsF p cells frame,Smp y:=
 valsOf_smp h hs hf _ _ (fun y hy=>by rw[(List.mem_replicate.1 hy).2];exact smp_zero)
theorem length_cellsF:(cellsF p cells frame vals).length=p.zB.length:=by simp[cellsF]
theorem cellsF_at {i:Nat} {x:GNode} (hx:p.zB[i]?=some x):(cellsF p cells frame vals)[i]?=some (nextSt x (inF x frame vals) (cells.getD i []) (vals.getD i 0)):=by
 unfold cellsF;rw[List.getElem?_mapIdx,hx];rfl
theorem st_next (h:PatchOk p) (hs:StOk p cells) (hf: ∀ y ∈ frame,Smp y) (hv: ∀ y ∈ vals,Smp y):StOk p (cellsF p cells frame vals):=by
 refine⟨length_cellsF,fun i x st hx hst=>?_⟩
 rw[cellsF_at hx] at hst
 injection hst with hst
 subst hst
 obtain⟨st,h1,h2⟩:=st_get hs hx
 rw[h2]
 exact nextSt_ok (play_in h hs hf hv hx h1) (smp_getD hv i)
end
/-- Some of the states have been replaced. -/
def updC (S:Nat→Bool) (cells news:List (List Int)):List (List Int):=cells.mapIdx fun i c=>if S i then news.getD i [] else c
section
variable {S S':Nat→Bool} {cells news:List (List Int)}
theorem length_updC:(updC S cells news).length=cells.length:=by simp[updC]
theorem updC_get {i:Nat} {c:List Int} (h:cells[i]?=some c):(updC S cells news)[i]?=some (if S i then news.getD i [] else c):=by
 unfold updC;rw[List.getElem?_mapIdx,h];rfl
theorem updC_none (h: ∀ i,S i=false):updC S cells news=cells:=by
 apply List.ext_getElem?
 intro i
 unfold updC
 rw[List.getElem?_mapIdx]
 cases cells[i]?<;>simp[h]
theorem updC_all (hl:cells.length=news.length) (h: ∀ i,i<cells.length→S i=true):updC S cells news=news:=by
 apply List.ext_getElem?
 intro i
 by_cases hi:i<cells.length
 ·rw[updC_get (List.getElem?_eq_getElem hi),h i hi,if_pos rfl,List.getD_eq_getElem?_getD,List.getElem?_eq_getElem (show i<news.length by omega)]
  rfl
 ·rw[List.getElem?_eq_none (by rw[length_updC];omega),List.getElem?_eq_none (by omega)]
theorem updC_set {i:Nat} (h: ∀ j,S' j=(S j || decide (j=i))):(updC S cells news).set i (news.getD i [])=updC S' cells news:=by
 apply List.ext_getElem?
 intro j
 by_cases hj:j<cells.length
 ·have hg:=List.getElem?_eq_getElem hj
  rw[updC_get hg,h j]
  by_cases e:i=j
  ·subst e
   rw[List.getElem?_set_self (by rw[length_updC];exact hj)]
   simp
  ·rw[List.getElem?_set_ne e,updC_get hg]
   have: ¬ j=i:=fun e'=>e e'.symm
   simp[this]
 ·rw[List.getElem?_eq_none (by rw[List.length_set,length_updC];omega),List.getElem?_eq_none (by rw[length_updC];omega)]
theorem updC_same (h: ∀ j,S j=S' j):updC S cells news=updC S' cells news:=by
 rw[show S=S' from funext h]
end
/-- The nodes whose states are new behind the first steps of a frame. -/
def doneA (p:GPatch) (k:Nat) (i:Nat):Bool:=decide ((i:Int) ∈ (orderF p.zB).take k) && ((p.zB[i]?).map fun x=>decide (x.zD≠6)).getD false
def doneB (p:GPatch) (k:Nat) (i:Nat):Bool:=((p.zB[i]?).map fun x=>decide (x.zD≠6∨i<k)).getD false
section
variable {p:GPatch}
theorem doneA_zero (i:Nat):doneA p 0 i=false:=by simp[doneA]
theorem doneA_skip {k:Nat} {i:Int} {x:GNode} (hk:(orderF p.zB)[k]?=some i) (hi:0≤i) (hx:p.zB[i.toNat]?=some x) (h6:x.zD=6) (j:Nat):doneA p (k+1) j=doneA p k j:=by
 unfold doneA
 rw[List.take_add_one,hk]
 by_cases e:(j:Int)=i
 ·have:j=i.toNat:=by omega
  subst this
  rw[hx]
  simp[h6]
 ·simp[e]
theorem doneA_next {k:Nat} {i:Int} {x:GNode} (hk:(orderF p.zB)[k]?=some i) (hi:0≤i) (hx:p.zB[i.toNat]?=some x) (h6:x.zD≠6) (j:Nat):doneA p (k+1) j=(doneA p k j || decide (j=i.toNat)):=by
 unfold doneA
 rw[List.take_add_one,hk]
 by_cases e:(j:Int)=i
 ·have:j=i.toNat:=by omega
  subst this
  rw[hx]
  simp[h6,e]
 ·have: ¬ j=i.toNat:=by omega
  simp[e,this]
theorem doneA_all (h:(orderF p.zB).length=p.zB.length) (j:Nat):doneA p p.zB.length j=doneB p 0 j:=by
 unfold doneA doneB
 rw[←h,List.take_length]
 cases hx:p.zB[j]? with
 |none=>simp
 |some x=>
  have hm:(j:Int) ∈ orderF p.zB:=order_all h (List.getElem?_eq_some_iff.1 hx).1
  simp[hm]
theorem doneB_skip {k:Nat} {x:GNode} (hx:p.zB[k]?=some x) (h6:x.zD≠6) (j:Nat):doneB p (k+1) j=doneB p k j:=by
 unfold doneB
 by_cases e:j=k
 ·subst e;rw[hx];simp[h6]
 ·rw[show (fun x:GNode=>decide (x.zD≠6∨j<k+1))=fun x=>decide (x.zD≠6∨j<k) from funext fun x=>decide_eq_decide.2 (by omega)]
theorem doneB_next {k:Nat} {x:GNode} (hx:p.zB[k]?=some x) (h6:x.zD=6) (j:Nat):doneB p (k+1) j=(doneB p k j || decide (j=k)):=by
 unfold doneB
 by_cases e:j=k
 ·subst e;rw[hx];simp
 ·rw[show (fun x:GNode=>decide (x.zD≠6∨j<k+1))=fun x=>decide (x.zD≠6∨j<k) from funext fun x=>decide_eq_decide.2 (by omega)]
  simp[e]
theorem doneB_all (j:Nat) (hj:j<p.zB.length):doneB p p.zB.length j=true:=by
 unfold doneB
 rw[List.getElem?_eq_getElem hj]
 simp[hj]
theorem doneB_false {k:Nat} {x:GNode} (hx:p.zB[k]?=some x) (h6:x.zD=6):doneB p k k=false:=by
 unfold doneB;rw[hx];simp[h6]
theorem doneA_false (h:(orderF p.zB).length=p.zB.length) {k:Nat} {i:Int} (hk:(orderF p.zB)[k]?=some i) (hi:0≤i):doneA p k i.toNat=false:=by
 obtain⟨n,_,_,h2,_⟩:=order_at h hk
 unfold doneA
 have:((i.toNat:Nat):Int)=i:=by omega
 rw[this]
 simp[h2]
end
section
variable {p:GPatch} {cells:List (List Int)} {frame vals:List Int}
/-- One node's turn. -/
theorem turn_facts (h:PatchOk p) (hs:StOk p cells) (hv:vals.length=p.zB.length) {k:Nat} {i:Int} (hk:(orderF p.zB)[k]?=some i):
  ∃ (x:GNode) (st:List Int),0≤i∧i.toNat<p.zB.length∧p.zB[i.toNat]?=some x∧cells[i.toNat]?=some st∧
   (updC (doneA p k) cells (cellsF p cells frame (valsF p cells frame)))[i.toNat]?=some st∧
   valsOf p cells frame ((orderF p.zB).take (k+1)) vals=(valsOf p cells frame ((orderF p.zB).take k) vals).set i.toNat (outF x p.zM (inF x frame (valsOf p cells frame ((orderF p.zB).take k) vals)) st)∧
   (x.zD≠6→updC (doneA p (k+1)) cells (cellsF p cells frame (valsF p cells frame))=(updC (doneA p k) cells (cellsF p cells frame (valsF p cells frame))).set i.toNat (nextSt x (inF x frame (valsOf p cells frame ((orderF p.zB).take k) vals)) st (outF x p.zM (inF x frame (valsOf p cells frame ((orderF p.zB).take k) vals)) st)))∧
   (x.zD=6→updC (doneA p (k+1)) cells (cellsF p cells frame (valsF p cells frame))=updC (doneA p k) cells (cellsF p cells frame (valsF p cells frame))∧outF x p.zM (inF x frame (valsOf p cells frame ((orderF p.zB).take k) vals)) st=st.getD 0 0∧0<st.length):=by
 obtain⟨x,h0,hx,hni,hw⟩:=order_at h.order hk
 have hi:i.toNat<p.zB.length:=(List.getElem?_eq_some_iff.1 hx).1
 obtain⟨st,h1,h2⟩:=st_get hs hx
 have hlt:k<(orderF p.zB).length:=(List.getElem?_eq_some_iff.1 hk).1
 have hsnoc:valsOf p cells frame ((orderF p.zB).take (k+1)) vals=(valsOf p cells frame ((orderF p.zB).take k) vals).set i.toNat (outF x p.zM (inF x frame (valsOf p cells frame ((orderF p.zB).take k) vals)) st):=by
  rw[take_snoc_of hk,valsOf_snoc]
  generalize valsOf p cells frame ((orderF p.zB).take k) vals=V
  unfold valStep
  rw[hx,h2]
 refine⟨x,st,h0,hi,hx,h1,?_,hsnoc,fun h6=>?_,fun h6=>⟨?_,?_,?_⟩⟩
 ·rw[updC_get h1,doneA_false h.order hk h0];rfl
 ·rw[←updC_set (i:=i.toNat) (doneA_next hk h0 hx h6)]
  congr 1
  rw[List.getD_eq_getElem?_getD,cellsF_at hx,h2]
  have ht:=in_turn (cells:=cells) (frame:=frame) h.play hv hk hx h6
  have hp:=vals_prefix (cells:=cells) (frame:=frame) h.play hv (k+1) (by rw[←h.order];exact hlt) i (by rw[take_snoc_of hk];simp)
  rw[hsnoc,lgetD_self (by rw[length_valsOf,hv];exact hi)] at hp
  rw[←ht,←hp]
  rfl
 ·exact updC_same (doneA_skip hk h0 hx h6)
 ·unfold outF;simp[h6]
 ·have hl:=(hs.each _ x st hx h1).1
  have ha:=(h.formed.nodes _ x hx).1.a
  rw[h6] at ha
  simp[kndF,kndL] at ha
  have:=yZ.1 ha
  unfold startSt at hl
  simp[h6] at hl
  omega
theorem turn2_facts (h:PatchOk p) (hs:StOk p cells) {k:Nat} {x:GNode} (hx:p.zB[k]?=some x):
  (x.zD≠6→updC (doneB p (k+1)) cells (cellsF p cells frame (valsF p cells frame))=updC (doneB p k) cells (cellsF p cells frame (valsF p cells frame)))∧
  (x.zD=6→ ∃ st,(updC (doneB p k) cells (cellsF p cells frame (valsF p cells frame)))[k]?=some st∧cells[k]?=some st∧
   updC (doneB p (k+1)) cells (cellsF p cells frame (valsF p cells frame))=(updC (doneB p k) cells (cellsF p cells frame (valsF p cells frame))).set k (nextSt x (inF x frame (valsF p cells frame)) st (outF x [] (inF x frame (valsF p cells frame)) st))):=by
 refine⟨fun h6=>updC_same (doneB_skip hx h6),fun h6=>?_⟩
 obtain⟨st,h1,h2⟩:=st_get hs hx
 refine⟨st,by rw[updC_get h1,doneB_false hx h6];rfl,h1,?_⟩
 rw[←updC_set (i:=k) (doneB_next hx h6)]
 congr 1
 rw[List.getD_eq_getElem?_getD,cellsF_at hx,h2]
 unfold nextSt
 simp[h6]
theorem updA_zero:updC (doneA p 0) cells (cellsF p cells frame (valsF p cells frame))=cells:=updC_none doneA_zero
theorem updA_all (h:PatchOk p):updC (doneA p p.zB.length) cells (cellsF p cells frame (valsF p cells frame))=updC (doneB p 0) cells (cellsF p cells frame (valsF p cells frame)):=updC_same (doneA_all h.order)
theorem updB_all (hs:StOk p cells):updC (doneB p p.zB.length) cells (cellsF p cells frame (valsF p cells frame))=cellsF p cells frame (valsF p cells frame):=
 updC_all (by rw[hs.len,length_cellsF]) (fun i hi=>doneB_all i (by rw[←hs.len];exact hi))
theorem play_in6 (h:PatchOk p) (hs:StOk p cells) (hf: ∀ y ∈ frame,Smp y) (hv: ∀ y ∈ vals,Smp y) {i:Nat} {x:GNode} {st:List Int} (hx:p.zB[i]?=some x) (hst:cells[i]?=some st) (h6:x.zD=6):PlayIn x [] (inF x frame vals) st:=by
 have hp:=play_in h hs hf hv hx hst
 refine⟨⟨hp.ok.kind,hp.ok.a,hp.ok.b,hp.ok.from_,hp.ok.arity,fun h13=>by omega⟩,⟨fun i t ht=>by simp at ht,by simp⟩,hp.num,hp.state,hp.ins_,hp.st_⟩
end
end Go.Proofs.YtoibekfhepnedaaGreat
end
section
namespace Go.Proofs.YtoibekfhepnedaaGreat
open Go.RowKit
theorem c_output (x:GNode) (cs:List Value) (tables:List (List Int)) (ins st:List Int) (tv iv:Value) (w:World) (hP:PlayIn x tables ins st) (hn:x.zD ∈ ([1,2,3,4,5,9,10,11,13,15]:List Int)) (hT:T.rd w (T.sl 26 1 (tables.map (T.ints 2))) [tv]) (hI:RdI w iv ins) (h:T.rds w x.fs cs):Calls Tryz.prog 294 #[.agg cs.toArray,tv,iv] w fun e w'=>e= .returned (.int .i64 (outF x tables ins st))∧Below w.heap.size w w':=by
 obtain⟨v3,rfl,h3⟩:=GNode.yN h
 clear h
 have h3i:=T.yR.1 h3;obtain⟨va3,vc3,rfl,vl3,vm3,vx3⟩:=h3i.open_
 have R3:=hide h3i;have HX3:=hide vx3;clear vx3 h3 h3i
 have HB0:=hide (show Below w.heap.size w (w.alloc (.cells #[.int .i64 x.zD,.int .i64 x.fA,.int .i64 x.fB,(.slice va3 x.zH.length vc3)] 167)) from(Below.refl _ _).alloc (Nat.le_refl _) _)
 have HK0:=hide (Bk.born w 167 #[.int .i64 x.zD,.int .i64 x.fA,.int .i64 x.fB,(.slice va3 x.zH.length vc3)])
 have HP:=hide hP;have HT:=hide hT;have HI:=hide hI
 have h17:x.zD=1∨x.zD=2∨x.zD=3∨x.zD=4∨x.zD=5∨x.zD=9∨x.zD=10∨x.zD=11∨x.zD=13∨x.zD=15:=by simp only[List.mem_cons,List.not_mem_nil,or_false] at hn;exact hn
 have HA0:=hide hP.ok.a;have HB0_:=hide hP.ok.b;have HTB:=hide hP.ok.table;clear hP hT hI hn
 rcases h17 with e|e|e|e|e|e|e|e|e|e
 ·
  have hnum:=HP.out.num;have hia:=HP.out.ins_
  rw[e] at hnum
  replace hnum:ins.length=1:=by rw[hnum];rfl
  obtain⟨i0,rfl⟩:=lnI1 hnum
  obtain⟨bi,oi,ci,rfl,li,mi,lbi,hci⟩:=rdI_cells HI.out (by simp)
  have c0:=hci 0 i0 rfl
  rw[Nat.add_zero] at c0;clear hci
  have hs0:Smp i0:=hia i0 (by simp)
  simp only[List.length_cons,List.length_nil] at li
  clear hnum hia
  have HE:=hide (show outF x tables [i0] st=i0 by unfold outF;simp only[e];rfl)
  rw[e] at HB0 HK0 ⊢
  generalize hO:outF x tables [i0] st=OO at *
  clear e hO
  have k0:=(HB0.out.cell lbi).trans c0;have lbi2:bi<(w.alloc (.cells #[.int .i64 1,.int .i64 x.fA,.int .i64 x.fB,(.slice va3 x.zH.length vc3)] 167)).heap.size:=Nat.lt_of_lt_of_le lbi HB0.out.size;clear c0
  go_enter Tryz.func294,Tryz.ntmps294
  go_wp2
  go_ret
  exact⟨ret_int (by rw[HE.out]),HB0.out⟩
 ·
  have hnum:=HP.out.num;have hia:=HP.out.ins_
  rw[e] at hnum
  replace hnum:ins.length=0:=by rw[hnum];rfl
  obtain rfl:ins= []:=List.eq_nil_of_length_eq_zero hnum
  obtain⟨IA,ci,rfl,li,mi,_⟩:=HI.out.open_
  clear hnum hia
  have HE:=hide (show outF x tables [] st=x.fA by unfold outF;simp only[e];rfl)
  rw[e] at HB0 HK0 ⊢
  generalize hO:outF x tables [] st=OO at *
  clear e hO
  go_enter Tryz.func294,Tryz.ntmps294
  go_wp2
  go_ret
  exact⟨ret_int (by rw[HE.out]),HB0.out⟩
 ·
  have hnum:=HP.out.num;have hia:=HP.out.ins_
  rw[e] at hnum
  replace hnum:ins.length=2:=by rw[hnum];rfl
  obtain⟨i0,i1,rfl⟩:=lnI2 hnum
  obtain⟨bi,oi,ci,rfl,li,mi,lbi,hci⟩:=rdI_cells HI.out (by simp)
  have c0:=hci 0 i0 rfl
  have c1:=hci 1 i1 rfl
  rw[Nat.add_zero] at c0;clear hci
  have hs0:Smp i0:=hia i0 (by simp)
  have hs1:Smp i1:=hia i1 (by simp)
  simp only[List.length_cons,List.length_nil] at li
  clear hnum hia
  have HE:=hide (show outF x tables [i0,i1] st=wrp (i0+i1) by unfold outF;simp only[e];rfl)
  rw[e] at HB0 HK0 ⊢
  generalize hO:outF x tables [i0,i1] st=OO at *
  clear e hO
  have hw:IntKind.i64.wrap (i0+i1)=i0+i1:=IntWalk.i64_in _ (by unfold Smp at *;omega)
  go_enter Tryz.func294,Tryz.ntmps294
  go_wp2
  generalize (w.alloc (.cells #[.int .i64 3,.int .i64 x.fA,.int .i64 x.fB,(.slice va3 x.zH.length vc3)] 167))=W at *
  have g0:=xB HK0.out
  have g1:=yF ((HB0.out.cell lbi).trans c0)
  have g2:=yF ((HB0.out.cell lbi).trans c1)
  refine xA (by kernel_rfl) (by kernel_rfl) ?_
  repeat(first|go_big_quiet_skip|(go_big_quiet_want;go_big_quiet_op;first|go_big_quiet_on|(apply Exists.intro;refine⟨fun _=>?_,?_⟩;(· (first|(go_at_call 242;exact Calls.yJ (c_Wrap _ _))));go_big_quiet_on)))
  refine wpQuiet_nil ?_
  rintro w9 ⟨uu,rfl⟩
  have hb9:=yG W uu
  generalize bel W uu=w9 at *
  have HB9:=hide (yI HB0.out HB0.out.size hb9);clear g0 g1 g2
  go_wp2
  go_ret
  exact⟨ret_int (by rw[HE.out]),HB9.out⟩
 ·
  have hnum:=HP.out.num;have hia:=HP.out.ins_
  rw[e] at hnum
  replace hnum:ins.length=2:=by rw[hnum];rfl
  obtain⟨i0,i1,rfl⟩:=lnI2 hnum
  obtain⟨bi,oi,ci,rfl,li,mi,lbi,hci⟩:=rdI_cells HI.out (by simp)
  have c0:=hci 0 i0 rfl
  have c1:=hci 1 i1 rfl
  rw[Nat.add_zero] at c0;clear hci
  have hs0:Smp i0:=hia i0 (by simp)
  have hs1:Smp i1:=hia i1 (by simp)
  simp only[List.length_cons,List.length_nil] at li
  clear hnum hia
  have HE:=hide (show outF x tables [i0,i1] st=wrp (i0 - i1) by unfold outF;simp only[e];rfl)
  rw[e] at HB0 HK0 ⊢
  generalize hO:outF x tables [i0,i1] st=OO at *
  clear e hO
  have hw:IntKind.i64.wrap (i0 - i1)=i0 - i1:=IntWalk.i64_in _ (by unfold Smp at *;omega)
  go_enter Tryz.func294,Tryz.ntmps294
  go_wp2
  generalize (w.alloc (.cells #[.int .i64 4,.int .i64 x.fA,.int .i64 x.fB,(.slice va3 x.zH.length vc3)] 167))=W at *
  have g0:=xB HK0.out
  have g1:=yF ((HB0.out.cell lbi).trans c0)
  have g2:=yF ((HB0.out.cell lbi).trans c1)
  refine xA (by kernel_rfl) (by kernel_rfl) ?_
  repeat(first|go_big_quiet_skip|(go_big_quiet_want;go_big_quiet_op;first|go_big_quiet_on|(apply Exists.intro;refine⟨fun _=>?_,?_⟩;(· (first|(go_at_call 242;exact Calls.yJ (c_Wrap _ _))));go_big_quiet_on)))
  refine wpQuiet_nil ?_
  rintro w9 ⟨uu,rfl⟩
  have hb9:=yG W uu
  generalize bel W uu=w9 at *
  have HB9:=hide (yI HB0.out HB0.out.size hb9);clear g0 g1 g2
  go_wp2
  go_ret
  exact⟨ret_int (by rw[HE.out]),HB9.out⟩
 ·
  have hA:Smp x.fA:=by have h:=HA0.out;rw[e] at h;exact yZ.1 h
  have hnum:=HP.out.num;have hia:=HP.out.ins_
  rw[e] at hnum
  replace hnum:ins.length=1:=by rw[hnum];rfl
  obtain⟨i0,rfl⟩:=lnI1 hnum
  obtain⟨bi,oi,ci,rfl,li,mi,lbi,hci⟩:=rdI_cells HI.out (by simp)
  have c0:=hci 0 i0 rfl
  rw[Nat.add_zero] at c0;clear hci
  have hs0:Smp i0:=hia i0 (by simp)
  simp only[List.length_cons,List.length_nil] at li
  clear hnum hia
  have HE:=hide (show outF x tables [i0] st=wrp (x.fA * i0) by unfold outF;simp only[e];rfl)
  rw[e] at HB0 HK0 ⊢
  generalize hO:outF x tables [i0] st=OO at *
  clear e hO
  have hw:IntKind.i64.wrap (x.fA * i0)=x.fA * i0:=IntWalk.i64_in _ (by have:=smp_mul hA hs0;omega)
  go_enter Tryz.func294,Tryz.ntmps294
  go_wp2
  generalize (w.alloc (.cells #[.int .i64 5,.int .i64 x.fA,.int .i64 x.fB,(.slice va3 x.zH.length vc3)] 167))=W at *
  have g0:=xB HK0.out
  have g1:=yF ((HB0.out.cell lbi).trans c0)
  refine xA (by kernel_rfl) (by kernel_rfl) ?_
  repeat(first|go_big_quiet_skip|(go_big_quiet_want;go_big_quiet_op;first|go_big_quiet_on|(apply Exists.intro;refine⟨fun _=>?_,?_⟩;(· (first|(go_at_call 242;exact Calls.yJ (c_Wrap _ _))));go_big_quiet_on)))
  refine wpQuiet_nil ?_
  rintro w9 ⟨uu,rfl⟩
  have hb9:=yG W uu
  generalize bel W uu=w9 at *
  have HB9:=hide (yI HB0.out HB0.out.size hb9);clear g0 g1
  go_wp2
  go_ret
  exact⟨ret_int (by rw[HE.out]),HB9.out⟩
 ·
  have hnum:=HP.out.num;have hia:=HP.out.ins_
  rw[e] at hnum
  replace hnum:ins.length=2:=by rw[hnum];rfl
  obtain⟨i0,i1,rfl⟩:=lnI2 hnum
  obtain⟨bi,oi,ci,rfl,li,mi,lbi,hci⟩:=rdI_cells HI.out (by simp)
  have c0:=hci 0 i0 rfl
  have c1:=hci 1 i1 rfl
  rw[Nat.add_zero] at c0;clear hci
  have hs0:Smp i0:=hia i0 (by simp)
  have hs1:Smp i1:=hia i1 (by simp)
  simp only[List.length_cons,List.length_nil] at li
  clear hnum hia
  have HE:=hide (show outF x tables [i0,i1] st=wrp (i0 * i1) by unfold outF;simp only[e];rfl)
  rw[e] at HB0 HK0 ⊢
  generalize hO:outF x tables [i0,i1] st=OO at *
  clear e hO
  have hw:IntKind.i64.wrap (i0 * i1)=i0 * i1:=IntWalk.i64_in _ (by have:=smp_mul hs0 hs1;omega)
  go_enter Tryz.func294,Tryz.ntmps294
  go_wp2
  generalize (w.alloc (.cells #[.int .i64 9,.int .i64 x.fA,.int .i64 x.fB,(.slice va3 x.zH.length vc3)] 167))=W at *
  have g0:=xB HK0.out
  have g1:=yF ((HB0.out.cell lbi).trans c0)
  have g2:=yF ((HB0.out.cell lbi).trans c1)
  refine xA (by kernel_rfl) (by kernel_rfl) ?_
  repeat(first|go_big_quiet_skip|(go_big_quiet_want;go_big_quiet_op;first|go_big_quiet_on|(apply Exists.intro;refine⟨fun _=>?_,?_⟩;(· (first|(go_at_call 242;exact Calls.yJ (c_Wrap _ _))));go_big_quiet_on)))
  refine wpQuiet_nil ?_
  rintro w9 ⟨uu,rfl⟩
  have hb9:=yG W uu
  generalize bel W uu=w9 at *
  have HB9:=hide (yI HB0.out HB0.out.size hb9);clear g0 g1 g2
  go_wp2
  go_ret
  exact⟨ret_int (by rw[HE.out]),HB9.out⟩
 ·
  have hA:0≤x.fA∧x.fA≤31:=by have h:=HA0.out;rw[e] at h;exact yZ.1 h
  have hnum:=HP.out.num;have hia:=HP.out.ins_
  rw[e] at hnum
  replace hnum:ins.length=1:=by rw[hnum];rfl
  obtain⟨i0,rfl⟩:=lnI1 hnum
  obtain⟨bi,oi,ci,rfl,li,mi,lbi,hci⟩:=rdI_cells HI.out (by simp)
  have c0:=hci 0 i0 rfl
  rw[Nat.add_zero] at c0;clear hci
  have hs0:Smp i0:=hia i0 (by simp)
  simp only[List.length_cons,List.length_nil] at li
  clear hnum hia
  have HE:=hide (show outF x tables [i0] st=i0 / ((2 ^ x.fA.toNat:Nat):Int) by unfold outF;simp only[e];rfl)
  rw[e] at HB0 HK0 ⊢
  generalize hO:outF x tables [i0] st=OO at *
  clear e hO
  go_enter Tryz.func294,Tryz.ntmps294
  go_wp2
  generalize (w.alloc (.cells #[.int .i64 10,.int .i64 x.fA,.int .i64 x.fB,(.slice va3 x.zH.length vc3)] 167))=W at *
  have g0:=xB HK0.out
  have g1:=yF ((HB0.out.cell lbi).trans c0)
  refine xA (by kernel_rfl) (by kernel_rfl) ?_
  repeat(first|go_big_quiet_skip|(go_big_quiet_want;go_big_quiet_op;first|go_big_quiet_on|(apply Exists.intro;refine⟨fun _=>?_,?_⟩;(· (fail));go_big_quiet_on)))
  refine wpQuiet_nil ?_
  rintro w9 ⟨uu,rfl⟩
  have hb9:=yG W uu
  generalize bel W uu=w9 at *
  have HB9:=hide (yI HB0.out HB0.out.size hb9);clear g0 g1
  go_wp2
  go_ret
  exact⟨ret_int (by rw[HE.out];simp),HB9.out⟩
 ·
  have hA:0≤x.fA∧x.fA≤2147483647:=by have h:=HA0.out;rw[e] at h;exact yZ.1 h
  have hnum:=HP.out.num;have hia:=HP.out.ins_
  rw[e] at hnum
  replace hnum:ins.length=1:=by rw[hnum];rfl
  obtain⟨i0,rfl⟩:=lnI1 hnum
  obtain⟨bi,oi,ci,rfl,li,mi,lbi,hci⟩:=rdI_cells HI.out (by simp)
  have c0:=hci 0 i0 rfl
  rw[Nat.add_zero] at c0;clear hci
  have hs0:Smp i0:=hia i0 (by simp)
  simp only[List.length_cons,List.length_nil] at li
  clear hnum hia
  have HE:=hide (show outF x tables [i0] st=max (-x.fA) (min x.fA i0) by unfold outF;simp only[e];rfl)
  rw[e] at HB0 HK0 ⊢
  generalize hO:outF x tables [i0] st=OO at *
  clear e hO
  have hwA:IntKind.i64.wrap (-x.fA)= -x.fA:=IntWalk.i64_in _ (by omega)
  go_enter Tryz.func294,Tryz.ntmps294
  go_wp2
  generalize (w.alloc (.cells #[.int .i64 11,.int .i64 x.fA,.int .i64 x.fB,(.slice va3 x.zH.length vc3)] 167))=W at *
  have g0:=xB HK0.out
  have g1:=yF ((HB0.out.cell lbi).trans c0)
  refine xA (by kernel_rfl) (by kernel_rfl) ?_
  repeat(first|go_big_quiet_skip|(go_big_quiet_want;go_big_quiet_op;first|go_big_quiet_on|(apply Exists.intro;refine⟨fun _=>?_,?_⟩;(· (fail));go_big_quiet_on)))
  refine wpQuiet_nil ?_
  rintro w9 ⟨uu,rfl⟩
  have hb9:=yG W uu
  generalize bel W uu=w9 at *
  have HB9:=hide (yI HB0.out HB0.out.size hb9);clear g0 g1
  go_wp2
  all_goals (go_ret;exact⟨ret_int (by rw[HE.out];omega),HB9.out⟩)
 ·
  have hA:0≤x.fA∧x.fA≤3:=by have h:=HA0.out;rw[e] at h;exact yZ.1 h
  have hAt:x.fA<(tables.length:Int):=HTB.out e
  have hnum:=HP.out.num;have hia:=HP.out.ins_
  rw[e] at hnum
  replace hnum:ins.length=1:=by rw[hnum];rfl
  obtain⟨i0,rfl⟩:=lnI1 hnum
  obtain⟨bi,oi,ci,rfl,li,mi,lbi,hci⟩:=rdI_cells HI.out (by simp)
  have c0:=hci 0 i0 rfl
  rw[Nat.add_zero] at c0;clear hci
  have hs0:Smp i0:=hia i0 (by simp)
  simp only[List.length_cons,List.length_nil] at li
  clear hnum hia
  have hj:x.fA.toNat<tables.length:=by omega
  obtain⟨TA,tc,rfl,tl,tm,hx⟩:=T.yM HT.out
  have hgt:=List.getElem?_eq_getElem hj
  obtain⟨bt,ot,ct,rfl,lbt,hct,hcell⟩:=hx x.fA.toNat _ hgt
  have htl:=(HP.out.tabs.each x.fA.toNat _ hgt).1
  have HTD:=hide (show tables.getD x.fA.toNat []=tables[x.fA.toNat] by rw[List.getD_eq_getElem?_getD,hgt];rfl)
  generalize tables[x.fA.toNat]=t at *
  obtain⟨u3,rfl⟩:=T.rd_one hct
  have d0:=hcell 0 u3 rfl
  rw[Nat.mul_one,Nat.add_zero] at d0
  have RT:=hide (T.yR.1 hct);clear hct hcell hx hgt
  obtain⟨A3,c3,rfl,l3,m3,x3⟩:=RT.out.open_;clear x3
  have HE:=hide (show outF x tables [i0] st=lookF (tables.getD x.fA.toNat []) i0 by unfold outF;simp only[e];rfl)
  rw[e] at HB0 HK0 ⊢
  generalize hO:outF x tables [i0] st=OO at *
  clear e hO
  obtain⟨u,j,hu,ha,u0,u1,hw,hjj,hjl,hL⟩:=look_facts t i0 (by omega) (by omega)
  have HUN:=hide (fun(W:World)=>(by have:=c_unsigned i0 W;rw[hu] at this;exact this:Calls Tryz.prog 295 #[.int .i64 i0] W fun e w'=>e= .returned (.int .i64 u)∧W=w'))
  have HL:=hide hL;clear hL hu ha
  have hgj:=List.getElem?_eq_getElem hjl
  obtain⟨b4,o4,cp4,hv4,_,_,lb4,hc4⟩:=rdI_cells RT.out (by omega)
  injection hv4 with e1 _ e3;subst e1 e3
  have c4:=hc4 j _ hgj
  have HE4:=hide (show t.getD j 0=t[j] by rw[List.getD_eq_getElem?_getD,hgj];rfl)
  generalize t[j]=y4 at *
  clear hc4 hgj
  generalize hM:(t.length:Int) * u=M at *
  have hd0:=(HB0.out.cell lbt).trans d0;have lbt2:bt<(w.alloc (.cells #[.int .i64 13,.int .i64 x.fA,.int .i64 x.fB,(.slice va3 x.zH.length vc3)] 167)).heap.size:=Nat.lt_of_lt_of_le lbt HB0.out.size;clear d0
  go_enter Tryz.func294,Tryz.ntmps294
  go_wp2
  generalize (w.alloc (.cells #[.int .i64 13,.int .i64 x.fA,.int .i64 x.fB,(.slice va3 x.zH.length vc3)] 167))=W at *
  have g0:=yF ((HB0.out.cell lbi).trans c0);have g1:=yF ((HB0.out.cell lb4).trans c4)
  refine xA (by kernel_rfl) (by kernel_rfl) ?_
  repeat(first|go_big_quiet_skip|(go_big_quiet_want;go_big_quiet_op;first|go_big_quiet_on|(apply Exists.intro;refine⟨fun _=>?_,?_⟩;(· (first|(go_at_call 86;exact Calls.yJ (c_size _ t _ (Rd.below RT.out (yI HB0.out HB0.out.size (yG W _)))))|(go_at_call 295;exact Calls.yJ (HUN.out _))));go_big_quiet_on)))
  refine wpQuiet_nil ?_
  rintro w9 ⟨uu,rfl⟩
  have hb9:=yG W uu
  generalize bel W uu=w9 at *
  have HB9:=hide (yI HB0.out HB0.out.size hb9);clear g0 g1
  go_wp2
  go_ret
  exact⟨ret_int (by rw[HE.out,HTD.out,HL.out,HE4.out]),HB9.out⟩
 ·
  have hnum:=HP.out.num;have hia:=HP.out.ins_
  rw[e] at hnum
  replace hnum:ins.length=3:=by rw[hnum];rfl
  obtain⟨i0,i1,i2,rfl⟩:=lnI3 hnum
  obtain⟨bi,oi,ci,rfl,li,mi,lbi,hci⟩:=rdI_cells HI.out (by simp)
  have c0:=hci 0 i0 rfl
  have c1:=hci 1 i1 rfl
  have c2:=hci 2 i2 rfl
  rw[Nat.add_zero] at c0;clear hci
  have hs0:Smp i0:=hia i0 (by simp)
  have hs1:Smp i1:=hia i1 (by simp)
  have hs2:Smp i2:=hia i2 (by simp)
  simp only[List.length_cons,List.length_nil] at li
  clear hnum hia
  rw[e] at HB0 HK0 ⊢
  generalize hO:outF x tables [i0,i1,i2] st=OO at *
  have HK_:=hide e;clear e
  by_cases hc:0≤i0
  ·
   have HE:=hide (show OO=i1 by rw[←hO];unfold outF;simp only[HK_.out];simp[hc])
   clear hO
   have q1:decide (0≤i0)=true:=decide_eq_true hc
   have k0:=(HB0.out.cell lbi).trans c0
   have k1:=(HB0.out.cell lbi).trans c1
   have k2:=(HB0.out.cell lbi).trans c2
   have lbi2:bi<(w.alloc (.cells #[.int .i64 15,.int .i64 x.fA,.int .i64 x.fB,(.slice va3 x.zH.length vc3)] 167)).heap.size:=Nat.lt_of_lt_of_le lbi HB0.out.size
   clear c0 c1 c2
   go_enter Tryz.func294,Tryz.ntmps294
   go_wp2
   go_ret
   exact⟨ret_int (by rw[HE.out]),HB0.out⟩
  ·
   have HE:=hide (show OO=i2 by rw[←hO];unfold outF;simp only[HK_.out];simp[hc])
   clear hO
   have q1:decide (0≤i0)=false:=decide_eq_false hc
   have k0:=(HB0.out.cell lbi).trans c0
   have k1:=(HB0.out.cell lbi).trans c1
   have k2:=(HB0.out.cell lbi).trans c2
   have lbi2:bi<(w.alloc (.cells #[.int .i64 15,.int .i64 x.fA,.int .i64 x.fB,(.slice va3 x.zH.length vc3)] 167)).heap.size:=Nat.lt_of_lt_of_le lbi HB0.out.size
   clear c0 c1 c2
   go_enter Tryz.func294,Tryz.ntmps294
   go_wp2
   go_ret
   exact⟨ret_int (by rw[HE.out]),HB0.out⟩
end Go.Proofs.YtoibekfhepnedaaGreat
end
