/- The mix of a valid session: lengths, samples, waits. Rows of numbers that a call owns, laid open. Memory while a mix is made: the inputs of all strips, the outputs, the times at which they are right. Arguments: a slice of structs that came in reads as a list. No program is named here. Arguments that are structs of slices of structs read as nested data. No program is named here. Arguments that are structs read as nested data. -/
import Derived.Test.YtoibekfhepnedaaGreatQApExactMakeCache
import Derived.Test.YtoibekfhepnedaaGreatQAtExactMakeCache
import Derived.Test.YtoibekfhepnedaaGreatQAqExactMakeCache
import Derived.Test.YtoibekfhepnedaaGreatQAoExactMakeCache
import Derived.Test.YtoibekfhepnedaaGreatQAuExactMakeCache
import Derived.Test.YtoibekfhepnedaaGreatQAaExactMakeCache
import Derived.Deep.Slices
import Derived.ChangeSame
import Derived.ChangeArms
import Derived.Test.YtoibekfhepnedaaGreatQAbExactMakeCache
set_option linter.unusedVariables false
set_option linter.unusedSimpArgs false

namespace Go.Proofs.YtoibekfhepnedaaGreat
section
open Go.RowKit
section
variable {i:Nat} {lat:Int} {out:List Int} {l:List xM}
theorem entS_keep {j:Nat} (hj: ∀ s ∈ l,s.zW.toNat≠j): ∀ k,(entS i lat out l k).getD j 0=out.getD j 0
 |0=>rfl
 |k+1=>by
  have ih:=entS_keep hj k
  simp only[entS]
  split
  ·next s hs=>rw[lgetD_ne (hj s (List.mem_of_getElem? hs))];exact ih
  ·exact ih
theorem entS_grow (j k:Nat):(entS i lat out l k).getD j 0≤(entS i lat out l (k+1)).getD j 0:=by
 simp only[entS]
 split
 ·next s hs=>
  by_cases e:s.zW.toNat=j
  ·subst e
   by_cases hl:s.zW.toNat<(entS i lat out l k).length
   ·rw[lgetD_self hl];exact Int.le_max_left _ _
   ·rw[List.set_eq_of_length_le (by omega)];exact Int.le_refl _
  ·rw[lgetD_ne e];exact Int.le_refl _
 ·exact Int.le_refl _
theorem entS_ge (j:Nat): ∀ k,out.getD j 0≤(entS i lat out l k).getD j 0
 |0=>Int.le_refl _
 |k+1=>Int.le_trans (entS_ge j k) (entS_grow j k)
theorem entS_hit {q:Nat} {s:xM} (hs:l[q]?=some s) (hi: ∀ s ∈ l,s.zW.toNat≠i) (hl:s.zW.toNat<out.length): ∀ k,q<k→out.getD i 0+lat≤(entS i lat out l k).getD s.zW.toNat 0
 |0,h=>absurd h (by omega)
 |k+1,h=>by
  by_cases e:k=q
  ·subst e
   simp only[entS,hs]
   rw[lgetD_self (by rw[length_entS];exact hl),entS_keep hi]
   exact Int.le_max_right _ _
  ·exact Int.le_trans (entS_hit hs hi hl k (by omega)) (entS_grow _ k)
end
section
variable {l:List xH}
theorem entUp_grow (j k:Nat):(vH l k).getD j 0≤(vH l (k+1)).getD j 0:=by
 simp only[vH]
 split
 ·exact entS_ge j _
 ·exact Int.le_refl _
theorem entUp_ge (j k:Nat): ∀ d,(vH l k).getD j 0≤(vH l (k+d)).getD j 0
 |0=>Int.le_refl _
 |d+1=>Int.le_trans (entUp_ge j k d) (entUp_grow j (k+d))
theorem entUp_keep (hto: ∀ (i:Nat) (x:xH),l[i]?=some x→ ∀ s ∈ x.zM,i<s.zW.toNat) (i:Nat): ∀ d,(vH l (i+d)).getD i 0=(vH l i).getD i 0
 |0=>rfl
 |d+1=>by
  have ih:=entUp_keep hto i d
  rw[←Nat.add_assoc]
  simp only[vH]
  split
  ·next x hx=>rw[entS_keep (fun s hs=>by have:=hto _ _ hx s hs;omega)];exact ih
  ·exact ih
end
theorem mix_forward {m:xU} (h:vU m): ∀ (i:Nat) (x:xH),m.zC[i]?=some x→ ∀ s ∈ x.zM,i<s.zW.toNat:=by
 intro i x hx s hs
 obtain⟨k,hk⟩:=List.mem_iff_getElem?.1 hs
 have:=vX h hx k s hk
 omega
/-- A send waits for nothing, or some samples. -/
theorem wait_ok {m:xU} (h:vU m) {i:Nat} {x:xH} (hx:m.zC[i]?=some x) {q:Nat} {s:xM} (hs:x.zM[q]?=some s):0≤uD (xV m) i x s∧uD (xV m) i x s≤256:=by
 have hf:=mix_forward h
 have hi:i<m.zC.length:=(List.getElem?_eq_some_iff.1 hx).1
 have hq:q<x.zM.length:=(List.getElem?_eq_some_iff.1 hs).1
 have ht:=vX h hx q s hs
 have hm:=hf i x hx s (List.mem_of_getElem? hs)
 have hl:=uL.1 (h.each i x hx).1.latency
 have e1:(xV m).getD i 0=(vH m.zC i).getD i 0:=by
  have:=entUp_keep hf i (m.zC.length - i)
  rw[show i+(m.zC.length - i)=m.zC.length by omega] at this
  exact this
 have e2:(vH m.zC (i+1)).getD s.zW.toNat 0≤(xV m).getD s.zW.toNat 0:=by
  have:=entUp_ge (l:=m.zC) s.zW.toNat (i+1) (m.zC.length - (i+1))
  rw[show i+1+(m.zC.length - (i+1))=m.zC.length by omega] at this
  exact this
 have e3:(vH m.zC i).getD i 0+x.zI≤(vH m.zC (i+1)).getD s.zW.toNat 0:=by
  simp only[vH,hx]
  exact entS_hit hs (fun s' hs' e=>by have:=hf i x hx s' hs';omega) (by rw[zEz];omega) _ hq
 have u1:=zBz h i
 have u2:=zBz h s.zW.toNat
 unfold uD
 omega
/-- Signals of one length. -/
structure InsOk (m n:Nat) (ins:List (List Int)):Prop where
 len:ins.length=m
 each: ∀ l ∈ ins,l.length=n∧ ∀ y ∈ l,Smp y
section
variable {m n:Nat} {ins:List (List Int)}
theorem InsOk.get (h:InsOk m n ins) {i:Nat} (hi:i<m): ∃ l,ins[i]?=some l∧ins.getD i []=l∧l.length=n∧ ∀ y ∈ l,Smp y:=by
 have hg:=gE (show i<ins.length by rw[h.len];exact hi)
 have:=h.each _ (List.mem_of_getElem? hg)
 exact⟨_,hg,by rw[List.getD_eq_getElem?_getD,hg];rfl,this.1,this.2⟩
theorem InsOk.set (h:InsOk m n ins) (i:Nat) {l:List Int} (h1:l.length=n) (h2: ∀ y ∈ l,Smp y):InsOk m n (ins.set i l):=by
 refine⟨by rw[List.length_set,h.len],fun l' hl'=>?_⟩
 rcases List.mem_or_eq_of_mem_set hl' with e|e
 ·exact h.each l' e
 ·subst e;exact⟨h1,h2⟩
theorem InsOk.add (h:InsOk m n ins) {i:Nat} (hi:i<m) {b:List Int} (hb:b.length=n) (g:Int):InsOk m n (ins.set i (addS (ins.getD i []) b g)):=by
 obtain⟨l,_,e,h1,_⟩:=h.get hi
 rw[e]
 exact h.set i (by rw[length_addS,h1,hb,Nat.max_self]) smp_addS
end
theorem ins_zero (m n:Nat):InsOk m n (List.replicate m (List.replicate n 0)):=
 ⟨by simp,fun l hl=>by rw[(List.mem_replicate.1 hl).2];exact⟨by simp,smp_zeros⟩⟩
theorem feedUp_ok {s:xK} (h:vL s) (n:Nat): ∀ k,InsOk s.zG.zC.length n (feedUp s n k)
 |0=>ins_zero _ _
 |k+1=>by
  have ih:=feedUp_ok h n k
  simp only[feedUp]
  split
  ·next t f ht hf=>exact ih.add (by have:=h.feeds k f hf;omega) (uA _ _ _) 1
  ·exact ih
theorem sendUp_ok {m n:Nat} {y:List Int} {waits:List Int} {l:List xM} {ins:List (List Int)} (h:InsOk m n ins) (hto: ∀ s ∈ l,s.zW.toNat<m): ∀ k,InsOk m n (uF y n waits l ins k)
 |0=>h
 |k+1=>by
  have ih:=sendUp_ok (y:=y) (waits:=waits) h hto k
  simp only[uF]
  split
  ·next s hs=>exact ih.add (hto s (List.mem_of_getElem? hs)) (uA _ _ _) _
  ·exact ih
/-- Rendering stays within samples. -/
theorem frameF_smp {ins:List (List Int)} (h: ∀ l ∈ ins,∀ y ∈ l,Smp y) (t:Nat): ∀ y ∈ frameF ins t,Smp y:=by
 intro y hy
 unfold frameF at hy
 obtain⟨l,hl,rfl⟩:=List.mem_map.1 hy
 exact smpAt_smp (h l hl) _
theorem cellsAt_ok {p:xG} (h:wZ p) {ins:List (List Int)} (hi: ∀ l ∈ ins,∀ y ∈ l,Smp y): ∀ t,StOk p (cellsAt p ins t)
 |0=>st_start h
 |t+1=>st_next h (cellsAt_ok h hi t) (frameF_smp hi t) (valsF_smp h (cellsAt_ok h hi t) (frameF_smp hi t))
theorem valsAt_smp {p:xG} (h:wZ p) {ins:List (List Int)} (hi: ∀ l ∈ ins,∀ y ∈ l,Smp y) (t:Nat): ∀ y ∈ valsAt p ins t,Smp y:=
 valsF_smp h (cellsAt_ok h hi t) (frameF_smp hi t)
theorem length_valsAt (p:xG) (ins:List (List Int)) (t:Nat):(valsAt p ins t).length=p.zB.length:=length_valsF
/-- The one output of an effect: its first samples. -/
def rowF (p:xG) (y:List Int) (n:Nat):List Int:=(List.range n).map fun t=>(valsAt p [y] t).getD (p.zK.getD 0 0).toNat 0
theorem uV (p:xG) (y:List Int) (n:Nat):(rowF p y n).length=n:=by simp[rowF]
theorem rowF_snoc (p:xG) (y:List Int) (n:Nat):rowF p y (n+1)=rowF p y n++ [(valsAt p [y] n).getD (p.zK.getD 0 0).toNat 0]:=by simp[rowF,List.range_succ]
theorem rowF_smp {p:xG} (h:wZ p) {y:List Int} (hy: ∀ z ∈ y,Smp z) (n:Nat): ∀ z ∈ rowF p y n,Smp z:=by
 intro z hz
 unfold rowF at hz
 obtain⟨t,_,rfl⟩:=List.mem_map.1 hz
 exact smp_getD (valsAt_smp h (fun l hl=>by simp at hl;subst hl;exact hy) t) _
theorem render_row {p:xG} (h:p.zK.length=1) (y:List Int) (n:Nat):renderF p [y] n= [rowF p y n]:=by
 unfold renderF rowF
 match hp:p.zK with
 | []=>rw[hp] at h;simp at h
 | [o]=>rfl
 |o :: o' :: r=>rw[hp] at h;simp at h
theorem effF_row {p:xG} (h:p.zK.length=1) (hn: ¬ p=uP) (y:List Int) (n:Nat):effF p y n=rowF p y n:=by
 unfold effF;rw[if_neg hn,render_row h];rfl
theorem effF_ok {p:xG} (h:EffectOk p) {y:List Int} {n:Nat} (hl:y.length=n) (hy: ∀ z ∈ y,Smp z):(effF p y n).length=n∧ ∀ z ∈ effF p y n,Smp z:=by
 by_cases e:p=uP
 ·unfold effF;rw[if_pos e];exact⟨hl,hy⟩
 ·rcases h with h|⟨h1,_,h3⟩
  ·exact absurd h e
  ·rw[effF_row h3 e];exact⟨uV _ _ _,rowF_smp h1 hy n⟩
theorem stripY_ok {s:xK} {n:Nat} {ins:List (List Int)} {i:Nat} {x:xH} (hs:vL s) (h:InsOk s.zG.zC.length n ins) (hi:i<s.zG.zC.length):(wL s n ins i x).length=n∧ ∀ z ∈ wL s n ins i x,Smp z:=by
 unfold wL
 obtain⟨l,_,e,h1,h2⟩:=h.get hi
 have hg:=gE (show i<s.zP.length by rw[hs.effect];exact hi)
 rw[e,List.getD_eq_getElem?_getD,hg]
 exact⟨uA _ _ _,smp_lateF (effF_ok (hs.effects i _ hg) h1 h2).2⟩
theorem to_lt {m:xU} (h:vU m) {i:Nat} {x:xH} (hx:m.zC[i]?=some x): ∀ s ∈ x.zM,s.zW.toNat<m.zC.length:=by
 intro s hs
 obtain⟨k,hk⟩:=List.mem_iff_getElem?.1 hs
 have:=vX h hx k s hk
 omega
/-- Behind the first strips. -/
theorem zCz {s:xK} (h:vL s) (n:Nat): ∀ k,k≤s.zG.zC.length→InsOk s.zG.zC.length n (xP s n k).1∧InsOk k n (xP s n k).2
 |0,_=>⟨feedUp_ok h n _,⟨rfl,fun l hl=>by simp[xP] at hl⟩⟩
 |k+1,hk=>by
  obtain⟨h1,h2⟩:=zCz h n k (by omega)
  have hg:=gE (show k<s.zG.zC.length by omega)
  simp only[xP,hg]
  refine⟨sendUp_ok h1 (to_lt h.mixer hg) _,⟨by simp[h2.len],fun l hl=>?_⟩⟩
  rcases List.mem_append.1 hl with hl|hl
  ·exact h2.each l hl
  ·simp at hl;subst hl;exact stripY_ok h h1 (by omega)
theorem stripUp_step {s:xK} {n k:Nat} {x:xH} (hx:s.zG.zC[k]?=some x):xP s n (k+1)=(uF (wL s n (xP s n k).1 k x) n ((wX s.zG).getD k []) x.zM (xP s n k).1 x.zM.length,(xP s n k).2++ [wL s n (xP s n k).1 k x]):=by
 simp only[xP,hx]
theorem feedUp_step {s:xK} {n k:Nat} {t:xI} {f:Int} (ht:s.zO[k]?=some t) (hf:s.zQ[k]?=some f):feedUp s n (k+1)=(feedUp s n k).set f.toNat (addS ((feedUp s n k).getD f.toNat []) (lateF (uS s.zL t s.zF.toNat) ((xV s.zG).getD f.toNat 0).toNat n) 1):=by
 simp only[feedUp,ht,hf]
theorem sendUp_step {y:List Int} {n:Nat} {waits:List Int} {l:List xM} {ins:List (List Int)} {k:Nat} {s:xM} (hs:l[k]?=some s):uF y n waits l ins (k+1)=(uF y n waits l ins k).set s.zW.toNat (addS ((uF y n waits l ins k).getD s.zW.toNat []) (lateF y (waits.getD k 0).toNat n) s.zS):=by
 simp only[uF,hs]
theorem total_ok {m:xU} (h:vU m):0≤vN m∧vN m≤288:=by
 have hn:=h.some_
 have hg:=gE (show m.zC.length - 1<m.zC.length by omega)
 have h1:=zBz h (m.zC.length - 1)
 have h2:=uL.1 (h.each _ _ hg).1.latency
 unfold vN
 rw[List.getD_eq_getElem?_getD (l:=m.zC),hg]
 simp only[Option.getD_some]
 omega
theorem outsF_ok {s:xK} (h:vL s):InsOk s.zG.zC.length (s.zF+vN s.zG).toNat (outsF s):=(zCz h _ _ (Nat.le_refl _)).2
theorem length_mixF {s:xK} :(mixF s).length=s.zF.toNat:=length_cutL _ _ _
theorem smpAt_zeros (l:List Int) (c:Nat) (i:Int):wR (l++List.replicate c 0) i=wR l i:=by
 unfold wR
 rw[List.length_append,List.length_replicate]
 by_cases h0:0≤i
 ·by_cases h1:i<(l.length:Int)
  ·rw[if_pos ⟨h0,by omega⟩,if_pos ⟨h0,h1⟩,List.getD_eq_getElem?_getD,List.getElem?_append_left (by omega),List.getD_eq_getElem?_getD]
  ·rw[show (if 0≤i∧i<(l.length:Int) then l.getD i.toNat 0 else 0)=0 from if_neg (fun h=>h1 h.2)]
   split
   ·rw[List.getD_eq_getElem?_getD,List.getElem?_append_right (by omega),List.getElem?_replicate]
    split<;>rfl
   ·rfl
 ·rw[if_neg (fun h=>h0 h.1),if_neg (fun h=>h0 h.1)]
/-- The program's way: tracks are made longer ahead. -/
theorem late_zeros (a:List Int) (c b n:Nat):lateF (a++List.replicate c 0) b n=lateF a b n:=by
 unfold lateF cutL
 rw[←List.append_assoc]
 apply List.map_congr_left
 intro i _
 exact smpAt_zeros _ _ _
/-- The times at which the strips are right. -/
def readyF (m:xU):List Int:=m.zC.mapIdx fun i x=>(xV m).getD i 0+x.zI
theorem length_readyF (m:xU):(readyF m).length=m.zC.length:=by simp[readyF]
theorem ready_at {m:xU} {k:Nat} {x:xH} (hx:m.zC[k]?=some x):(readyF m)[k]?=some ((xV m).getD k 0+x.zI):=by
 unfold readyF;rw[List.getElem?_mapIdx,hx];rfl
theorem ready_last {m:xU} (h:vU m):(readyF m)[m.zC.length - 1]?=some (vN m):=by
 have hn:=h.some_
 have hg:=gE (show m.zC.length - 1<m.zC.length by omega)
 rw[ready_at hg]
 unfold vN
 rw[List.getD_eq_getElem?_getD (l:=m.zC),hg]
 rfl
end
section
open Go.RowKit
theorem ows_rows {w:World} {E:TypeId} : ∀ (rows:List (List Int)) (G:List Nat) (es:List Value),T.ows w (rows.map (T.ints E)) G es→ ∀ (i:Nat) (l:List Int),rows[i]?=some l→ ∃ u:Value,es[i]?=some u∧OwI E w 0 u l∧ ∀ k,u.ownBlock=some k→k ∈ G
 | [],_,_,_,i,l,hl=>by simp at hl
 |l0 :: rows,G,es,h,i,l,hl=>by
  rw[List.map_cons] at h
  simp only[T.ows] at h
  obtain⟨F1,F2,c1,c2,rfl,rfl,h1,h2⟩:=h
  obtain⟨u,rfl⟩:=T.rd_one (T.ow_rd _ _ _ h1)
  cases i with
  |zero=>
   injection hl with hl
   subst hl
   obtain⟨h3,h4⟩:=T.ow_ints.1 h1
   exact⟨u,rfl,h3,fun k hk=>by rw[h4,hk];simp⟩
  |succ i=>
   obtain⟨u',h3,h4,h5⟩:=ows_rows rows F2 c2 h2 i l hl
   exact⟨u',h3,h4,fun k hk=>List.mem_append_right _ (h5 k hk)⟩
theorem own_base {E:TypeId} {w:World} {B:Nat} {v:Value} {xs:List Int} (h:OwI E w 0 v xs) (hb: ∀ k,v.ownBlock=some k→B≤k):OwI E w B v xs:=by
 refine⟨h.1,?_⟩
 rcases h.2 with hn|⟨g,cap,cur,rfl,_,rest⟩
 ·exact .inl hn
 ·exact .inr ⟨g,cap,cur,rfl,hb g rfl,rest⟩
/-- A slice of rows of the call's own, laid open: its block, and each row. -/
theorem Own.rows {B:Nat} {w:World} {t E:TypeId} {rows:List (List Int)} {F:List Nat} {v:Value} (h:Own B w (T.sl t 1 (rows.map (T.ints E))) F v) (hn:0<rows.length):
  ∃ (bc cap:Nat) (cs:Array Value),v= .slice (some ⟨bc,0,none⟩) rows.length cap∧rows.length≤cap∧B≤bc∧Bk w bc t cs∧ ∀ (i:Nat) (l:List Int),rows[i]?=some l→ ∃ u:Value,cs[i]?=some u∧OwI E w B u l∧u.ownBlock≠some bc∧ ∀ k,u.ownBlock=some k→B≤k∧k<w.heap.size:=by
 have hlo:=h.lo;have hnd:=h.nodup;have hlt:=h.lt
 have how:=h.ow
 simp only[T.ow] at how
 obtain⟨v',es,G,hv,rfl,_,h1,h2⟩:=how
 injection hv with hv
 subst hv
 obtain⟨hl,h1⟩:=h1
 rcases h1 with ⟨_,h0⟩|⟨g,cap,cur,rfl,_,hg,hcap,_,_,htk⟩
 ·rw[List.length_map] at h0;omega
 rw[List.length_map] at *
 rw[Nat.mul_one] at *
 refine⟨g,cap,cur,rfl,hcap,hlo g (by simp[Value.ownBlock]),hg,fun i l hi=>?_⟩
 obtain⟨u,h3,h4,h5⟩:=ows_rows rows G es h2 i l hi
 have hil:i<rows.length:=(List.getElem?_eq_some_iff.1 hi).1
 refine⟨u,?_,own_base h4 fun k hk=>hlo k (List.mem_append_right _ (h5 k hk)),fun e=>?_,fun k hk=>⟨hlo k (List.mem_append_right _ (h5 k hk)),hlt k (List.mem_append_right _ (h5 k hk))⟩⟩
 ·rw[←htk,List.getElem?_take_of_lt hil] at h3
  rw[←Array.getElem?_toList]
  exact h3
 ·rw[List.nodup_append] at hnd
  exact hnd.2.2 g (by simp[Value.ownBlock]) g (h5 g e) rfl
theorem startL_eq (x:xJ):vF x=wD x:=rfl
end
section
open Go.RowKit
theorem own_grown {E:TypeId} {w w':World} {B:Nat} {row:Option Nat} {v:Value} {xs:List Int} (h:OwI E w B v xs) (hg:w.grownBy w' row) (hd: ∀ g,v.ownBlock=some g→row≠some g):OwI E w' B v xs:=
 zDz (fun b hb=>hg.block b (h.lt b hb).2 (fun e=>hd b hb e.symm)) h
theorem Own.grown {B:Nat} {w w':World} {x:T} {F:List Nat} {v:Value} {row:Option Nat} (h:Own B w x F v) (hg:w.grownBy w' row) (hd: ∀ g ∈ F,row≠some g):Own B w' x F v:=
 ⟨T.ow_keep _ _ _ (fun b hb=>hg.block b (h.lt b hb) (fun e=>hd b hb e.symm)) h.ow,h.nodup,h.lo⟩
structure StM (w3 wr:World) (bi:Nat) (A F:List Nat) (cs:Array Value) (ins outs:List (List Int)) (vo vr:Value) (rdy:List Int):Prop where
 bel:Below w3.heap.size w3 wr
 lo:w3.heap.size≤bi
 cel:Cel wr bi A 26 cs ins
 outs:Own w3.heap.size wr (T.sl 26 1 (outs.map (T.ints 2))) F vo
 rdy:OwI 2 wr w3.heap.size vr rdy
 ai:bi ∈ A
 alt: ∀ q ∈ A,q<wr.heap.size
 af: ∀ g ∈ F,g ∈ A
 ar: ∀ g,vr.ownBlock=some g→g ∈ A
 nf:bi ∉ F
 nr: ∀ g,vr.ownBlock=some g→g≠bi∧g ∉ F
section
variable {w3 w w':World} {bi:Nat} {A F:List Nat} {cs:Array Value} {ins outs:List (List Int)} {vo vr:Value} {rdy:List Int}
theorem StM.below (h:StM w3 w bi A F cs ins outs vo vr rdy) (hb:Below w.heap.size w w'):StM w3 w' bi A F cs ins outs vo vr rdy:=
 ⟨yJ h.bel h.bel.size hb,h.lo,h.cel.below hb,h.outs.all hb,wO h.rdy hb,h.ai,fun q hq=>lL (h.alt q hq) hb.size,h.af,h.ar,h.nf,h.nr⟩
/-- What a call has made counts among what the inputs avoid. -/
theorem StM.addv (h:StM w3 w bi A F cs ins outs vo vr rdy) (hb:Below w.heap.size w w') {v:Value} (hv: ∀ g,v.ownBlock=some g→w.heap.size≤g∧g<w'.heap.size):StM w3 w' bi (v.ownBlock.toList++A) F cs ins outs vo vr rdy:=
 ⟨yJ h.bel h.bel.size hb,h.lo,h.cel.grow (grown_below hb none) (fun g e=>by cases e) (fun g hg=> .inr (hv g (by simpa using hg)).1),h.outs.all hb,wO h.rdy hb,List.mem_append_right _ h.ai,fun q hq=>by
  rcases List.mem_append.1 hq with hq|hq
  ·exact(hv q (by simpa using hq)).2
  ·exact lL (h.alt q hq) hb.size,fun g hg=>List.mem_append_right _ (h.af g hg),fun g hg=>List.mem_append_right _ (h.ar g hg),h.nf,h.nr⟩
/-- An input is replaced. -/
theorem StM.put (h:StM w3 w bi A F cs ins outs vo vr rdy) {i:Nat} {l0 l:List Int} {v:Value} (hi:ins[i]?=some l0) (hv:RdI w v l) (hn: ∀ q ∈ A,v.ownBlock≠some q) (hl: ∀ k,v.ownBlock=some k→k<w.heap.size):StM w3 (w.setCell ⟨bi,i,none⟩ v) bi A F (cs.setIfInBounds i v) (ins.set i l) outs vo vr rdy:=
 ⟨h.bel.setCell h.lo _,h.lo,h.cel.put hi hv h.ai hn hl,h.outs.grown (grown_set w bi i v) (fun g hg e=>by injection e with e;exact h.nf (by rw[e];exact hg)),own_grown h.rdy (grown_set w bi i v) (fun g hg e=>by injection e with e;exact(h.nr g hg).1 e.symm),h.ai,fun q hq=>by simpa[World.setCell] using h.alt q hq,h.af,h.ar,h.nf,h.nr⟩
/-- An output is appended. -/
theorem StM.out (h:StM w3 w bi A F cs ins outs vo vr rdy) {y:List Int} {v8:Value} {F8 Fx:List Nat} (h8:Own w3.heap.size w' (T.sl 26 1 ((outs++ [y]).map (T.ints 2))) F8 v8) (hg:w.grownBy w' vo.ownBlock) (hv: ∀ b ∈ F8,b ∈ F∨b ∈ Fx∨w.heap.size≤b) (hx: ∀ b ∈ Fx,b ∈ A∧b≠bi∧vr.ownBlock≠some b):StM w3 w' bi (F8++A) F8 cs ins (outs++ [y]) v8 vr rdy:=by
 have hvo: ∀ g,vo.ownBlock=some g→g ∈ F:=fun g hg=>h.outs.mem g hg
 have hrl: ∀ g,vr.ownBlock=some g→g<w.heap.size:=fun g hg=>(h.rdy.lt g hg).2
 have hbl:=h.cel.bk.lt
 refine⟨h.bel.grown hg h.bel.size (fun j hj=>h.outs.row j hj),h.lo,h.cel.grow hg (fun g e=>⟨h.af g (hvo g e),fun e2=>h.nf (by rw[e2];exact hvo g e)⟩) (fun g hg=>?_),h8,own_grown h.rdy hg (fun g hg e=>(h.nr g hg).2 (hvo g e)),List.mem_append_right _ h.ai,fun q hq=>(List.mem_append.1 hq).elim (fun hq=>h8.lt q hq) (fun hq=>lL (h.alt q hq) hg.size),fun g hg=>List.mem_append_left _ hg,fun g hg=>List.mem_append_right _ (h.ar g hg),fun hm=>?_,fun g hg=>⟨(h.nr g hg).1,fun hm=>?_⟩⟩
 ·rcases hv g hg with h1|h1|h1
  ·exact .inl (h.af g h1)
  ·exact .inl (hx g h1).1
  ·exact .inr h1
 ·rcases hv bi hm with h1|h1|h1
  ·exact h.nf h1
  ·exact(hx bi h1).2.1 rfl
  ·omega
 ·rcases hv g hm with h1|h1|h1
  ·exact(h.nr g hg).2 h1
  ·exact(hx g h1).2.2 hg
  ·have:=hrl g hg;omega
/-- A time is appended. -/
theorem StM.time (h:StM w3 w bi A F cs ins outs vo vr rdy) {z:Int} {v8:Value} (h8:OwI 2 w' w3.heap.size v8 (rdy++ [z])) (hg:w.grownBy w' vr.ownBlock) (hv: ∀ k,v8.ownBlock=some k→vr.ownBlock=some k∨w.heap.size≤k):StM w3 w' bi (v8.ownBlock.toList++A) F cs ins outs vo v8 (rdy++ [z]):=by
 have hbl:=h.cel.bk.lt
 refine⟨h.bel.grown hg h.bel.size (fun j hj=>(h.rdy.lt j hj).1),h.lo,h.cel.grow hg (fun g e=>⟨h.ar g e,fun e2=>(h.nr g e).1 e2.symm⟩) (fun g hg=>?_),h.outs.grown hg (fun g hg e=>(h.nr g e).2 hg),h8,List.mem_append_right _ h.ai,fun q hq=>(List.mem_append.1 hq).elim (fun hq=>(h8.lt q (by simpa using hq)).2) (fun hq=>lL (h.alt q hq) hg.size),fun g hg=>List.mem_append_right _ (h.af g hg),fun g hg=>List.mem_append_left _ (by rw[hg];simp),h.nf,fun g hg=>?_⟩
 ·rcases hv g (by simpa using hg) with h1|h1
  ·exact .inl (h.ar g h1)
  ·exact .inr h1
 ·rcases hv g hg with h1|h1
  ·exact h.nr g h1
  ·exact⟨by omega,fun hm=>by have:=h.outs.lt g hm;omega⟩
/-- The lists of outputs and of times are begun. -/
theorem StM.two (h:StM w3 w bi [bi] [] cs ins [] (.slice none 0 0) (.slice none 0 0) []):StM w3 ((w.alloc (.cells #[] 26)).alloc (.cells #[] 2)) bi [w.heap.size,w.heap.size+1,bi] [w.heap.size] cs ins [] (.slice (some ⟨w.heap.size,0,none⟩) 0 0) (.slice (some ⟨w.heap.size+1,0,none⟩) 0 0) []:=by
 have hs:=h.bel.size
 have hlb:=h.cel.bk.lt
 have hb:Below w.heap.size w ((w.alloc (.cells #[] 26)).alloc (.cells #[] 2)):=((Below.refl _ _).alloc (Nat.le_refl _) _).alloc (by simp) _
 have ho:=Own.born (B:=w.heap.size) (World.ownsRow_made w #[] 0 (Nat.le_refl _) (by decide) rfl:(w.alloc (.cells #[] 26)).ownsRow w.heap.size 26 1 (.slice (some ⟨w.heap.size,0,none⟩) 0 0) 0 [])
 have ho2:=(ho.all ((Below.refl (w.alloc (.cells #[] 26)).heap.size (w.alloc (.cells #[] 26))).alloc (Nat.le_refl _) (.cells #[] 2))).more hs
 have hr:OwI 2 ((w.alloc (.cells #[] 26)).alloc (.cells #[] 2)) w3.heap.size (.slice (some ⟨w.heap.size+1,0,none⟩) 0 0) []:=by
  have h2:=(vC (w.alloc (.cells #[] 26))).more (B':=w3.heap.size) (by simp;omega)
  simpa using h2
 refine⟨yJ h.bel h.bel.size hb,h.lo,h.cel.grow (grown_below hb none) (fun g e=>by cases e) (G:= [w.heap.size,w.heap.size+1]) (fun g hg=> .inr (by simp at hg;omega)),by simpa[Value.ownBlock] using ho2,hr,by simp,by simp;omega,by simp,by simp[Value.ownBlock],by simp;omega,by simp[Value.ownBlock];omega⟩
end
/-- Inputs being made: the first ones are zeros, the others nothing. -/
def insUp (m k:Nat) (Z:List Int):List (List Int):=List.replicate k Z++List.replicate (m - k) []
theorem insUp_step {m k:Nat} {Z:List Int} (h:k<m):insUp m k Z=insUp m k Z∧(insUp m k Z)[k]?=some []∧(insUp m k Z).set k Z=insUp m (k+1) Z:=by
 refine⟨rfl,?_,?_⟩
 ·unfold insUp
  rw[List.getElem?_append_right (by simp),List.length_replicate,Nat.sub_self,List.getElem?_replicate]
  simp;omega
 ·unfold insUp
  rw[List.set_append_right _ _ (by simp),List.length_replicate,Nat.sub_self,show m - k=(m - (k+1))+1 by omega,List.replicate_succ,List.set_cons_zero,List.replicate_succ']
  simp
theorem insUp_all (m:Nat) (Z:List Int):insUp m m Z=List.replicate m Z:=by simp[insUp]
end
section
open Go.RowKit Go.ChangeShapes Go.WideShapes Go.Deep
end
section
open Go.RowKit Go.ChangeShapes Go.WideShapes Go.Deep
theorem rds_range {w:World} (tr:Nat→T) (g:Nat→List Value): ∀ (l:List Nat),(∀ i ∈ l,T.rd w (tr i) (g i))→T.rds w (l.map tr) (l.flatMap g)
 | [],_=>T.c_re
 |i :: l,h=>by
  simp only[List.map_cons,List.flatMap_cons,T.rds]
  exact⟨_,_,rfl,h i (by simp),rds_range tr g l (fun j hj=>h j (by simp[hj]))⟩
theorem rdT_open {α H:Type} {enc:TypeId × Value→H} {P:Program} {w:World} {base:Nat} {spare:Nat→Bool} {held:Bool} {t e:TypeId} {fuel:Nat} {cs:List Value} {x:DataW H × List MemPlace} (E:TypeId)
  (tr:α→T) {sz:Nat} (good:α→Prop) (hw: ∀ x,T.wide (tr x)=sz) (hs:0<sz) (dflt:α) (ht:P.underlying t=some (.slice e)) (ce:P.cellsOf e=sz)
  (hel: ∀ n cs' y,DataW.trod enc P w base spare held n e cs'=some y→ ∃ z,T.rd w (tr z) cs'∧good z)
  (h:DataW.trod enc P w base spare held fuel t cs=some x): ∃ (v:Value) (xs:List α),cs= [v]∧T.rd w (.sl E sz (xs.map tr)) [v]∧ ∀ z ∈ xs,good z:=by
 rcases open_slice ht h with ⟨rfl,_⟩|⟨a,len,cap,m,n,D,Pl,rfl,hb,hl,hm,hmm,_,hx⟩
 ·refine⟨_,[],rfl,?_,by simp⟩
  simp only[T.rd,List.map_nil]
  exact⟨_,[],rfl,by simp,Rd.nil_ w sz,by simp[T.rds]⟩
 ·have hlm:len≤m:=by rw[hmm];split<;>omega
  have each: ∀ i,i<len→ ∃ z:α × List Value,z.2.length=sz∧T.rd w (tr z.1) z.2∧good z.1∧ ∀ j,j<sz→w.cell? (a.add (i * sz+j))=z.2[j]?:=by
   intro i hi
   obtain⟨cs',h1,h2⟩:=hx i (by omega)
   rw[ce] at h1
   obtain⟨_,hlen,hcell⟩:=World.cells?_some h1
   obtain⟨z,hz,hg⟩:=hel _ _ _ h2
   refine⟨(z,cs'),hlen,hz,hg,fun j hj=>?_⟩
   rw[←hcell j hj,add_add]
  obtain⟨f,hf⟩:= @choose_lt (α × List Value) ⟨(dflt,[])⟩ len _ each
  let g:Nat→List Value:=fun i=>if i<len then (f i).2 else List.replicate sz (.bool true)
  have hgl: ∀ i,(g i).length=sz:=fun i=>by
   show (if i<len then (f i).2 else _).length=sz
   split
   ·next hi=>exact(hf i hi).1
   ·simp
  have hgi: ∀ i,i<len→g i=(f i).2:=fun i hi=>if_pos hi
  refine⟨_,(List.range len).map fun i=>(f i).1,rfl,?_,?_⟩
  ·simp only[T.rd]
   refine⟨_,(List.range len).flatMap g,rfl,?_,?_,?_⟩
   ·intro y hy
    obtain⟨z,_,rfl⟩:=List.mem_map.1 hy
    exact hw z
   ·have hlen:(((List.range len).map fun i=>(f i).1).map tr).length=len:=by simp
    rw[hlen]
    refine⟨by rw[flat_len hgl];simp,some a,cap,rfl,hl,by unfold maxLen at hm;omega,fun hn=>?_⟩
    have hc0:=(hf 0 hn).2.2.2 0 hs
    rw[gE (by rw[(hf 0 hn).1];exact hs)] at hc0
    have hz:a.add (0 * sz+0)=a:=by simp[Addr.add]
    rw[hz] at hc0
    have hsp:a.spot=none:=by
     unfold World.cell? at hc0
     split at hc0
     ·split at hc0
      ·cases hc0
      ·rename_i h';simpa using h'
     ·cases hc0
    obtain⟨b,off,sp⟩:=a
    simp only at hsp
    subst hsp
    refine⟨b,off,rfl,World.block_lt_of_cell? w _ hc0,fun j u hu=>?_⟩
    have hj:j<len * sz:=by have:=(List.getElem?_eq_some_iff.1 hu).1;rw[flat_len hgl] at this;simpa using this
    have hk:j / sz<len:=(Nat.div_lt_iff_lt_mul hs).2 hj
    have hjm:j % sz<sz:=Nat.mod_lt _ hs
    have ej:j / sz * sz+j % sz=j:=by have:=Nat.div_add_mod j sz;rw[Nat.mul_comm] at this;exact this
    have h1:=(hf (j / sz) hk).2.2.2 (j % sz) hjm
    have hin:(g (j / sz))[j % sz]?=some ((g (j / sz))[j % sz]'(by rw[hgl];exact hjm)):=gE _
    have h3:=flat_at hgl (xs:=List.range len) (k:=j / sz) (j:=j % sz) (x:=j / sz) (by simp[hk]) hin
    rw[ej,hu] at h3
    rw[ej,←hgi _ hk,hin,←h3] at h1
    rw[show (⟨b,off+j,none⟩:Addr)=(⟨b,off,none⟩:Addr).add j by unfold Addr.add;split<;>simp_all]
    exact h1
   ·have:=rds_range (w:=w) (fun i=>tr (f i).1) g (List.range len) (fun i hi=>by
     have hi':=List.mem_range.1 hi
     rw[hgi i hi'];exact(hf i hi').2.1)
    rw[List.map_map]
    exact this
  ·intro z hz
   simp only[List.mem_map,List.mem_range] at hz
   obtain⟨i,hi,rfl⟩:=hz
   exact(hf i hi).2.2.1
end
section
open Go.RowKit Go.ChangeShapes Go.WideShapes Go.Deep
theorem vS {α:Type} : ∀ (n:Nat) (l:List α),l.length=n+1→ ∃ a t,l=a :: t∧t.length=n
 |n,a :: t,h=>⟨a,t,rfl,by simpa using h⟩
theorem i64_ok {n:Int} (h:(Lit.int .i64 n).wf=true):I64 n:=i64_of_wf h
theorem op_n {H:Type} {enc:TypeId × Value→H} {W:World} {base:Nat} {spare:Nat→Bool} {held:Bool} {fuel:Nat} {cs:List Value} {x:DataW H × List MemPlace} (h:DataW.trod enc Tryz.prog W base spare held fuel 2 cs=some x): ∃ n:Int,cs= [.int .i64 n]∧I64 n:=by
 obtain⟨n,e,_,hw⟩:=DataW.trod_int Tryz.underlying2 h
 exact⟨n,e,i64_ok hw⟩
theorem op_s {H:Type} {enc:TypeId × Value→H} {W:World} {base:Nat} {spare:Nat→Bool} {held:Bool} {fuel:Nat} {cs:List Value} {x:DataW H × List MemPlace} (h:DataW.trod enc Tryz.prog W base spare held fuel 9 cs=some x): ∃ n:ByteArray,cs= [.string n]∧n.size≤9223372036854775807:=by
 obtain⟨n,e,_,hw⟩:=DataW.trod_string Tryz.underlying9 h
 exact⟨n,e,by unfold maxLen at hw;omega⟩
theorem op_LI {H:Type} {enc:TypeId × Value→H} {W:World} {base:Nat} {spare:Nat→Bool} {held:Bool} {fuel:Nat} {cs:List Value} {x:DataW H × List MemPlace} (h:DataW.trod enc Tryz.prog W base spare held fuel 26 cs=some x): ∃ (v:Value) (xs:List Int),cs= [v]∧T.rd W (T.ints 2 xs) [v]∧ ∀ y ∈ xs,I64 y:=
 rdT_open 2 T.num I64 (fun _=>rfl) (by omega) 0 Tryz.underlying26 (by kernel_rfl) (fun n cs' y hy=>by
  obtain⟨z,e,hz⟩:=op_n hy
  exact⟨z,by simp only[T.rd];exact e,hz⟩) h
theorem op_LL {H:Type} {enc:TypeId × Value→H} {W:World} {base:Nat} {spare:Nat→Bool} {held:Bool} {fuel:Nat} {cs:List Value} {x:DataW H × List MemPlace} (h:DataW.trod enc Tryz.prog W base spare held fuel 24 cs=some x): ∃ (v:Value) (xs:List (List Int)),cs= [v]∧T.rd W (T.sl 26 1 (xs.map (T.ints 2))) [v]∧ ∀ l ∈ xs,∀ y ∈ l,I64 y:=
 rdT_open 26 (T.ints 2) (fun l=> ∀ y ∈ l,I64 y) (fun _=>rfl) (by omega) [] Tryz.underlying24 (by kernel_rfl) (fun n cs' y hy=>by
  obtain⟨v,z,e,hr,hz⟩:=op_LI hy
  exact⟨z,by rw[e];exact hr,hz⟩) h
theorem op_Clip {H:Type} {enc:TypeId × Value→H} {W:World} {base:Nat} {spare:Nat→Bool} {held:Bool} {fuel:Nat} {cs:List Value} {x:DataW H × List MemPlace} (h:DataW.trod enc Tryz.prog W base spare held fuel 282 cs=some x): ∃ g:xL,T.rds W g.fs cs∧g.good:=by
 obtain⟨ys,k,_,_,hcl,hyl,hf⟩:=DataW.trod_struct Tryz.underlying282 h
 have hl5:cs.length=5:=hcl.trans (by kernel_rfl)
 obtain⟨c0,cs0,rfl,hl4⟩:=vS 4 _ hl5
 obtain⟨c1,cs1,rfl,hl3⟩:=vS 3 _ hl4
 obtain⟨c2,cs2,rfl,hl2⟩:=vS 2 _ hl3
 obtain⟨c3,cs3,rfl,hl1⟩:=vS 1 _ hl2
 obtain⟨c4,cs4,rfl,hl0⟩:=vS 0 _ hl1
 obtain rfl:cs4= []:=List.eq_nil_of_length_eq_zero hl0
 have hyn:ys.length=5:=hyl
 have z0:Tryz.prog.cellsOf 2=1:=by kernel_rfl
 have g0:DataW.trod enc Tryz.prog W base spare held k 2 (List.take (Tryz.prog.cellsOf 2) (List.drop 0 [c0,c1,c2,c3,c4]))=ys[0]?:=hf 0 _ rfl
 rw[z0,gE (by omega)] at g0
 replace g0:DataW.trod enc Tryz.prog W base spare held k 2 [c0]=some _:=g0
 obtain⟨n0,e0,w0⟩:=op_n g0
 have g1:DataW.trod enc Tryz.prog W base spare held k 2 (List.take (Tryz.prog.cellsOf 2) (List.drop 1 [c0,c1,c2,c3,c4]))=ys[1]?:=hf 1 _ rfl
 rw[z0,gE (by omega)] at g1
 replace g1:DataW.trod enc Tryz.prog W base spare held k 2 [c1]=some _:=g1
 obtain⟨n1,e1,w1⟩:=op_n g1
 have g2:DataW.trod enc Tryz.prog W base spare held k 2 (List.take (Tryz.prog.cellsOf 2) (List.drop 2 [c0,c1,c2,c3,c4]))=ys[2]?:=hf 2 _ rfl
 rw[z0,gE (by omega)] at g2
 replace g2:DataW.trod enc Tryz.prog W base spare held k 2 [c2]=some _:=g2
 obtain⟨n2,e2,w2⟩:=op_n g2
 have g3:DataW.trod enc Tryz.prog W base spare held k 2 (List.take (Tryz.prog.cellsOf 2) (List.drop 3 [c0,c1,c2,c3,c4]))=ys[3]?:=hf 3 _ rfl
 rw[z0,gE (by omega)] at g3
 replace g3:DataW.trod enc Tryz.prog W base spare held k 2 [c3]=some _:=g3
 obtain⟨n3,e3,w3⟩:=op_n g3
 have g4:DataW.trod enc Tryz.prog W base spare held k 2 (List.take (Tryz.prog.cellsOf 2) (List.drop 4 [c0,c1,c2,c3,c4]))=ys[4]?:=hf 4 _ rfl
 rw[z0,gE (by omega)] at g4
 replace g4:DataW.trod enc Tryz.prog W base spare held k 2 [c4]=some _:=g4
 obtain⟨n4,e4,w4⟩:=op_n g4
 obtain rfl:c0=_:=(List.cons.inj e0).1
 obtain rfl:c1=_:=(List.cons.inj e1).1
 obtain rfl:c2=_:=(List.cons.inj e2).1
 obtain rfl:c3=_:=(List.cons.inj e3).1
 obtain rfl:c4=_:=(List.cons.inj e4).1
 refine⟨⟨n0,n1,n2,n3,n4⟩,?_,⟨w0,w1,w2,w3,w4⟩⟩
 unfold xL.fs
 exact T.c_rn (T.c_rn (T.c_rn (T.c_rn (T.c_rn (T.c_re)))))
theorem op_LClip {H:Type} {enc:TypeId × Value→H} {W:World} {base:Nat} {spare:Nat→Bool} {held:Bool} {fuel:Nat} {cs:List Value} {x:DataW H × List MemPlace} (h:DataW.trod enc Tryz.prog W base spare held fuel 183 cs=some x): ∃ (v:Value) (xs:List xL),cs= [v]∧T.rd W (T.sl 39 5 (xs.map xL.t)) [v]∧ ∀ y ∈ xs,xL.good y:=
 rdT_open 39 xL.t xL.good xL.wide_t (by omega) ⟨0,0,0,0,0⟩ Tryz.underlying183 (by kernel_rfl) (fun n cs' y hy=>by
  obtain⟨z,hz,hg⟩:=op_Clip hy
  exact⟨z,by simp only[xL.t,T.rd];exact hz,hg⟩) h
theorem op_Track {H:Type} {enc:TypeId × Value→H} {W:World} {base:Nat} {spare:Nat→Bool} {held:Bool} {fuel:Nat} {cs:List Value} {x:DataW H × List MemPlace} (h:DataW.trod enc Tryz.prog W base spare held fuel 185 cs=some x): ∃ g:xI,T.rds W g.fs cs∧g.good:=by
 obtain⟨ys,k,_,_,hcl,hyl,hf⟩:=DataW.trod_struct Tryz.underlying185 h
 have hl1:cs.length=1:=hcl.trans (by kernel_rfl)
 obtain⟨c0,cs0,rfl,hl0⟩:=vS 0 _ hl1
 obtain rfl:cs0= []:=List.eq_nil_of_length_eq_zero hl0
 have hyn:ys.length=1:=hyl
 have z0:Tryz.prog.cellsOf 183=1:=by kernel_rfl
 have g0:DataW.trod enc Tryz.prog W base spare held k 183 (List.take (Tryz.prog.cellsOf 183) (List.drop 0 [c0]))=ys[0]?:=hf 0 _ rfl
 rw[z0,gE (by omega)] at g0
 replace g0:DataW.trod enc Tryz.prog W base spare held k 183 [c0]=some _:=g0
 obtain⟨v0,n0,e0,r0,w0⟩:=op_LClip g0
 obtain rfl:c0=v0:=(List.cons.inj e0).1
 refine⟨⟨n0⟩,?_,w0⟩
 unfold xI.fs
 exact T.c_rl r0 (T.c_re)
theorem op_LTrack {H:Type} {enc:TypeId × Value→H} {W:World} {base:Nat} {spare:Nat→Bool} {held:Bool} {fuel:Nat} {cs:List Value} {x:DataW H × List MemPlace} (h:DataW.trod enc Tryz.prog W base spare held fuel 53 cs=some x): ∃ (v:Value) (xs:List xI),cs= [v]∧T.rd W (T.sl 96 1 (xs.map xI.t)) [v]∧ ∀ y ∈ xs,xI.good y:=
 rdT_open 96 xI.t xI.good xI.wide_t (by omega) ⟨[]⟩ Tryz.underlying53 (by kernel_rfl) (fun n cs' y hy=>by
  obtain⟨z,hz,hg⟩:=op_Track hy
  exact⟨z,by simp only[xI.t,T.rd];exact hz,hg⟩) h
theorem op_Node {H:Type} {enc:TypeId × Value→H} {W:World} {base:Nat} {spare:Nat→Bool} {held:Bool} {fuel:Nat} {cs:List Value} {x:DataW H × List MemPlace} (h:DataW.trod enc Tryz.prog W base spare held fuel 279 cs=some x): ∃ g:xJ,T.rds W g.fs cs∧g.good:=by
 obtain⟨ys,k,_,_,hcl,hyl,hf⟩:=DataW.trod_struct Tryz.underlying279 h
 have hl4:cs.length=4:=hcl.trans (by kernel_rfl)
 obtain⟨c0,cs0,rfl,hl3⟩:=vS 3 _ hl4
 obtain⟨c1,cs1,rfl,hl2⟩:=vS 2 _ hl3
 obtain⟨c2,cs2,rfl,hl1⟩:=vS 1 _ hl2
 obtain⟨c3,cs3,rfl,hl0⟩:=vS 0 _ hl1
 obtain rfl:cs3= []:=List.eq_nil_of_length_eq_zero hl0
 have hyn:ys.length=4:=hyl
 have z0:Tryz.prog.cellsOf 26=1:=by kernel_rfl
 have z1:Tryz.prog.cellsOf 2=1:=by kernel_rfl
 have g0:DataW.trod enc Tryz.prog W base spare held k 2 (List.take (Tryz.prog.cellsOf 2) (List.drop 0 [c0,c1,c2,c3]))=ys[0]?:=hf 0 _ rfl
 rw[z1,gE (by omega)] at g0
 replace g0:DataW.trod enc Tryz.prog W base spare held k 2 [c0]=some _:=g0
 obtain⟨n0,e0,w0⟩:=op_n g0
 have g1:DataW.trod enc Tryz.prog W base spare held k 2 (List.take (Tryz.prog.cellsOf 2) (List.drop 1 [c0,c1,c2,c3]))=ys[1]?:=hf 1 _ rfl
 rw[z1,gE (by omega)] at g1
 replace g1:DataW.trod enc Tryz.prog W base spare held k 2 [c1]=some _:=g1
 obtain⟨n1,e1,w1⟩:=op_n g1
 have g2:DataW.trod enc Tryz.prog W base spare held k 2 (List.take (Tryz.prog.cellsOf 2) (List.drop 2 [c0,c1,c2,c3]))=ys[2]?:=hf 2 _ rfl
 rw[z1,gE (by omega)] at g2
 replace g2:DataW.trod enc Tryz.prog W base spare held k 2 [c2]=some _:=g2
 obtain⟨n2,e2,w2⟩:=op_n g2
 have g3:DataW.trod enc Tryz.prog W base spare held k 26 (List.take (Tryz.prog.cellsOf 26) (List.drop 3 [c0,c1,c2,c3]))=ys[3]?:=hf 3 _ rfl
 rw[z0,gE (by omega)] at g3
 replace g3:DataW.trod enc Tryz.prog W base spare held k 26 [c3]=some _:=g3
 obtain⟨v3,n3,e3,r3,w3⟩:=op_LI g3
 obtain rfl:c0=_:=(List.cons.inj e0).1
 obtain rfl:c1=_:=(List.cons.inj e1).1
 obtain rfl:c2=_:=(List.cons.inj e2).1
 obtain rfl:c3=v3:=(List.cons.inj e3).1
 refine⟨⟨n0,n1,n2,n3⟩,?_,⟨w0,w1,w2,w3⟩⟩
 unfold xJ.fs
 exact T.c_rn (T.c_rn (T.c_rn (T.c_rl r3 (T.c_re))))
theorem op_LNode {H:Type} {enc:TypeId × Value→H} {W:World} {base:Nat} {spare:Nat→Bool} {held:Bool} {fuel:Nat} {cs:List Value} {x:DataW H × List MemPlace} (h:DataW.trod enc Tryz.prog W base spare held fuel 187 cs=some x): ∃ (v:Value) (xs:List xJ),cs= [v]∧T.rd W (T.sl 167 4 (xs.map xJ.t)) [v]∧ ∀ y ∈ xs,xJ.good y:=
 rdT_open 167 xJ.t xJ.good xJ.wide_t (by omega) ⟨0,0,0,[]⟩ Tryz.underlying187 (by kernel_rfl) (fun n cs' y hy=>by
  obtain⟨z,hz,hg⟩:=op_Node hy
  exact⟨z,by simp only[xJ.t,T.rd];exact hz,hg⟩) h
theorem op_Patch {H:Type} {enc:TypeId × Value→H} {W:World} {base:Nat} {spare:Nat→Bool} {held:Bool} {fuel:Nat} {cs:List Value} {x:DataW H × List MemPlace} (h:DataW.trod enc Tryz.prog W base spare held fuel 189 cs=some x): ∃ g:xG,T.rds W g.fs cs∧g.good:=by
 obtain⟨ys,k,_,_,hcl,hyl,hf⟩:=DataW.trod_struct Tryz.underlying189 h
 have hl4:cs.length=4:=hcl.trans (by kernel_rfl)
 obtain⟨c0,cs0,rfl,hl3⟩:=vS 3 _ hl4
 obtain⟨c1,cs1,rfl,hl2⟩:=vS 2 _ hl3
 obtain⟨c2,cs2,rfl,hl1⟩:=vS 1 _ hl2
 obtain⟨c3,cs3,rfl,hl0⟩:=vS 0 _ hl1
 obtain rfl:cs3= []:=List.eq_nil_of_length_eq_zero hl0
 have hyn:ys.length=4:=hyl
 have z0:Tryz.prog.cellsOf 24=1:=by kernel_rfl
 have z1:Tryz.prog.cellsOf 26=1:=by kernel_rfl
 have z2:Tryz.prog.cellsOf 187=1:=by kernel_rfl
 have z3:Tryz.prog.cellsOf 2=1:=by kernel_rfl
 have g0:DataW.trod enc Tryz.prog W base spare held k 2 (List.take (Tryz.prog.cellsOf 2) (List.drop 0 [c0,c1,c2,c3]))=ys[0]?:=hf 0 _ rfl
 rw[z3,gE (by omega)] at g0
 replace g0:DataW.trod enc Tryz.prog W base spare held k 2 [c0]=some _:=g0
 obtain⟨n0,e0,w0⟩:=op_n g0
 have g1:DataW.trod enc Tryz.prog W base spare held k 24 (List.take (Tryz.prog.cellsOf 24) (List.drop 1 [c0,c1,c2,c3]))=ys[1]?:=hf 1 _ rfl
 rw[z0,gE (by omega)] at g1
 replace g1:DataW.trod enc Tryz.prog W base spare held k 24 [c1]=some _:=g1
 obtain⟨v1,n1,e1,r1,w1⟩:=op_LL g1
 have g2:DataW.trod enc Tryz.prog W base spare held k 187 (List.take (Tryz.prog.cellsOf 187) (List.drop 2 [c0,c1,c2,c3]))=ys[2]?:=hf 2 _ rfl
 rw[z2,gE (by omega)] at g2
 replace g2:DataW.trod enc Tryz.prog W base spare held k 187 [c2]=some _:=g2
 obtain⟨v2,n2,e2,r2,w2⟩:=op_LNode g2
 have g3:DataW.trod enc Tryz.prog W base spare held k 26 (List.take (Tryz.prog.cellsOf 26) (List.drop 3 [c0,c1,c2,c3]))=ys[3]?:=hf 3 _ rfl
 rw[z1,gE (by omega)] at g3
 replace g3:DataW.trod enc Tryz.prog W base spare held k 26 [c3]=some _:=g3
 obtain⟨v3,n3,e3,r3,w3⟩:=op_LI g3
 obtain rfl:c0=_:=(List.cons.inj e0).1
 obtain rfl:c1=v1:=(List.cons.inj e1).1
 obtain rfl:c2=v2:=(List.cons.inj e2).1
 obtain rfl:c3=v3:=(List.cons.inj e3).1
 refine⟨⟨n0,n1,n2,n3⟩,?_,⟨w0,w1,w2,w3⟩⟩
 unfold xG.fs
 exact T.c_rn (T.c_rl r1 (T.c_rl r2 (T.c_rl r3 (T.c_re))))
theorem op_LPatch {H:Type} {enc:TypeId × Value→H} {W:World} {base:Nat} {spare:Nat→Bool} {held:Bool} {fuel:Nat} {cs:List Value} {x:DataW H × List MemPlace} (h:DataW.trod enc Tryz.prog W base spare held fuel 54 cs=some x): ∃ (v:Value) (xs:List xG),cs= [v]∧T.rd W (T.sl 108 4 (xs.map xG.t)) [v]∧ ∀ y ∈ xs,xG.good y:=
 rdT_open 108 xG.t xG.good xG.wide_t (by omega) ⟨0,[],[],[]⟩ Tryz.underlying54 (by kernel_rfl) (fun n cs' y hy=>by
  obtain⟨z,hz,hg⟩:=op_Patch hy
  exact⟨z,by simp only[xG.t,T.rd];exact hz,hg⟩) h
theorem op_Send {H:Type} {enc:TypeId × Value→H} {W:World} {base:Nat} {spare:Nat→Bool} {held:Bool} {fuel:Nat} {cs:List Value} {x:DataW H × List MemPlace} (h:DataW.trod enc Tryz.prog W base spare held fuel 303 cs=some x): ∃ g:xM,T.rds W g.fs cs∧g.good:=by
 obtain⟨ys,k,_,_,hcl,hyl,hf⟩:=DataW.trod_struct Tryz.underlying303 h
 have hl2:cs.length=2:=hcl.trans (by kernel_rfl)
 obtain⟨c0,cs0,rfl,hl1⟩:=vS 1 _ hl2
 obtain⟨c1,cs1,rfl,hl0⟩:=vS 0 _ hl1
 obtain rfl:cs1= []:=List.eq_nil_of_length_eq_zero hl0
 have hyn:ys.length=2:=hyl
 have z0:Tryz.prog.cellsOf 2=1:=by kernel_rfl
 have g0:DataW.trod enc Tryz.prog W base spare held k 2 (List.take (Tryz.prog.cellsOf 2) (List.drop 0 [c0,c1]))=ys[0]?:=hf 0 _ rfl
 rw[z0,gE (by omega)] at g0
 replace g0:DataW.trod enc Tryz.prog W base spare held k 2 [c0]=some _:=g0
 obtain⟨n0,e0,w0⟩:=op_n g0
 have g1:DataW.trod enc Tryz.prog W base spare held k 2 (List.take (Tryz.prog.cellsOf 2) (List.drop 1 [c0,c1]))=ys[1]?:=hf 1 _ rfl
 rw[z0,gE (by omega)] at g1
 replace g1:DataW.trod enc Tryz.prog W base spare held k 2 [c1]=some _:=g1
 obtain⟨n1,e1,w1⟩:=op_n g1
 obtain rfl:c0=_:=(List.cons.inj e0).1
 obtain rfl:c1=_:=(List.cons.inj e1).1
 refine⟨⟨n0,n1⟩,?_,⟨w0,w1⟩⟩
 unfold xM.fs
 exact T.c_rn (T.c_rn (T.c_re))
theorem op_LSend {H:Type} {enc:TypeId × Value→H} {W:World} {base:Nat} {spare:Nat→Bool} {held:Bool} {fuel:Nat} {cs:List Value} {x:DataW H × List MemPlace} (h:DataW.trod enc Tryz.prog W base spare held fuel 241 cs=some x): ∃ (v:Value) (xs:List xM),cs= [v]∧T.rd W (T.sl 98 2 (xs.map xM.t)) [v]∧ ∀ y ∈ xs,xM.good y:=
 rdT_open 98 xM.t xM.good xM.wide_t (by omega) ⟨0,0⟩ Tryz.underlying241 (by kernel_rfl) (fun n cs' y hy=>by
  obtain⟨z,hz,hg⟩:=op_Send hy
  exact⟨z,by simp only[xM.t,T.rd];exact hz,hg⟩) h
theorem op_Strip {H:Type} {enc:TypeId × Value→H} {W:World} {base:Nat} {spare:Nat→Bool} {held:Bool} {fuel:Nat} {cs:List Value} {x:DataW H × List MemPlace} (h:DataW.trod enc Tryz.prog W base spare held fuel 243 cs=some x): ∃ g:xH,T.rds W g.fs cs∧g.good:=by
 obtain⟨ys,k,_,_,hcl,hyl,hf⟩:=DataW.trod_struct Tryz.underlying243 h
 have hl3:cs.length=3:=hcl.trans (by kernel_rfl)
 obtain⟨c0,cs0,rfl,hl2⟩:=vS 2 _ hl3
 obtain⟨c1,cs1,rfl,hl1⟩:=vS 1 _ hl2
 obtain⟨c2,cs2,rfl,hl0⟩:=vS 0 _ hl1
 obtain rfl:cs2= []:=List.eq_nil_of_length_eq_zero hl0
 have hyn:ys.length=3:=hyl
 have z0:Tryz.prog.cellsOf 241=1:=by kernel_rfl
 have z1:Tryz.prog.cellsOf 2=1:=by kernel_rfl
 have z2:Tryz.prog.cellsOf 9=1:=by kernel_rfl
 have g0:DataW.trod enc Tryz.prog W base spare held k 9 (List.take (Tryz.prog.cellsOf 9) (List.drop 0 [c0,c1,c2]))=ys[0]?:=hf 0 _ rfl
 rw[z2,gE (by omega)] at g0
 replace g0:DataW.trod enc Tryz.prog W base spare held k 9 [c0]=some _:=g0
 obtain⟨n0,e0,w0⟩:=op_s g0
 have g1:DataW.trod enc Tryz.prog W base spare held k 2 (List.take (Tryz.prog.cellsOf 2) (List.drop 1 [c0,c1,c2]))=ys[1]?:=hf 1 _ rfl
 rw[z1,gE (by omega)] at g1
 replace g1:DataW.trod enc Tryz.prog W base spare held k 2 [c1]=some _:=g1
 obtain⟨n1,e1,w1⟩:=op_n g1
 have g2:DataW.trod enc Tryz.prog W base spare held k 241 (List.take (Tryz.prog.cellsOf 241) (List.drop 2 [c0,c1,c2]))=ys[2]?:=hf 2 _ rfl
 rw[z0,gE (by omega)] at g2
 replace g2:DataW.trod enc Tryz.prog W base spare held k 241 [c2]=some _:=g2
 obtain⟨v2,n2,e2,r2,w2⟩:=op_LSend g2
 obtain rfl:c0=_:=(List.cons.inj e0).1
 obtain rfl:c1=_:=(List.cons.inj e1).1
 obtain rfl:c2=v2:=(List.cons.inj e2).1
 refine⟨⟨n0,n1,n2⟩,?_,⟨w0,w1,w2⟩⟩
 unfold xH.fs
 exact T.c_rs (T.c_rn (T.c_rl r2 (T.c_re)))
theorem op_LStrip {H:Type} {enc:TypeId × Value→H} {W:World} {base:Nat} {spare:Nat→Bool} {held:Bool} {fuel:Nat} {cs:List Value} {x:DataW H × List MemPlace} (h:DataW.trod enc Tryz.prog W base spare held fuel 55 cs=some x): ∃ (v:Value) (xs:List xH),cs= [v]∧T.rd W (T.sl 101 3 (xs.map xH.t)) [v]∧ ∀ y ∈ xs,xH.good y:=
 rdT_open 101 xH.t xH.good xH.wide_t (by omega) ⟨ByteArray.empty,0,[]⟩ Tryz.underlying55 (by kernel_rfl) (fun n cs' y hy=>by
  obtain⟨z,hz,hg⟩:=op_Strip hy
  exact⟨z,by simp only[xH.t,T.rd];exact hz,hg⟩) h
theorem op_Mixer {H:Type} {enc:TypeId × Value→H} {W:World} {base:Nat} {spare:Nat→Bool} {held:Bool} {fuel:Nat} {cs:List Value} {x:DataW H × List MemPlace} (h:DataW.trod enc Tryz.prog W base spare held fuel 57 cs=some x): ∃ g:xU,T.rds W g.fs cs∧g.good:=by
 obtain⟨ys,k,_,_,hcl,hyl,hf⟩:=DataW.trod_struct Tryz.underlying57 h
 have hl1:cs.length=1:=hcl.trans (by kernel_rfl)
 obtain⟨c0,cs0,rfl,hl0⟩:=vS 0 _ hl1
 obtain rfl:cs0= []:=List.eq_nil_of_length_eq_zero hl0
 have hyn:ys.length=1:=hyl
 have z0:Tryz.prog.cellsOf 55=1:=by kernel_rfl
 have g0:DataW.trod enc Tryz.prog W base spare held k 55 (List.take (Tryz.prog.cellsOf 55) (List.drop 0 [c0]))=ys[0]?:=hf 0 _ rfl
 rw[z0,gE (by omega)] at g0
 replace g0:DataW.trod enc Tryz.prog W base spare held k 55 [c0]=some _:=g0
 obtain⟨v0,n0,e0,r0,w0⟩:=op_LStrip g0
 obtain rfl:c0=v0:=(List.cons.inj e0).1
 refine⟨⟨n0⟩,?_,w0⟩
 unfold xU.fs
 exact T.c_rl r0 (T.c_re)
theorem op_Session {H:Type} {enc:TypeId × Value→H} {W:World} {base:Nat} {spare:Nat→Bool} {held:Bool} {fuel:Nat} {cs:List Value} {x:DataW H × List MemPlace} (h:DataW.trod enc Tryz.prog W base spare held fuel 59 cs=some x): ∃ g:xK,T.rds W g.fs cs∧g.good:=by
 obtain⟨ys,k,_,_,hcl,hyl,hf⟩:=DataW.trod_struct Tryz.underlying59 h
 have hl6:cs.length=6:=hcl.trans (by kernel_rfl)
 obtain⟨c0,cs0,rfl,hl5⟩:=vS 5 _ hl6
 obtain⟨c1,cs1,rfl,hl4⟩:=vS 4 _ hl5
 obtain⟨c2,cs2,rfl,hl3⟩:=vS 3 _ hl4
 obtain⟨c3,cs3,rfl,hl2⟩:=vS 2 _ hl3
 obtain⟨c4,cs4,rfl,hl1⟩:=vS 1 _ hl2
 obtain⟨c5,cs5,rfl,hl0⟩:=vS 0 _ hl1
 obtain rfl:cs5= []:=List.eq_nil_of_length_eq_zero hl0
 have hyn:ys.length=6:=hyl
 have z0:Tryz.prog.cellsOf 24=1:=by kernel_rfl
 have z1:Tryz.prog.cellsOf 26=1:=by kernel_rfl
 have z2:Tryz.prog.cellsOf 54=1:=by kernel_rfl
 have z3:Tryz.prog.cellsOf 53=1:=by kernel_rfl
 have z4:Tryz.prog.cellsOf 2=1:=by kernel_rfl
 have z5:Tryz.prog.cellsOf 57=1:=by kernel_rfl
 have g0:DataW.trod enc Tryz.prog W base spare held k 2 (List.take (Tryz.prog.cellsOf 2) (List.drop 0 [c0,c1,c2,c3,c4,c5]))=ys[0]?:=hf 0 _ rfl
 rw[z4,gE (by omega)] at g0
 replace g0:DataW.trod enc Tryz.prog W base spare held k 2 [c0]=some _:=g0
 obtain⟨n0,e0,w0⟩:=op_n g0
 have g1:DataW.trod enc Tryz.prog W base spare held k 24 (List.take (Tryz.prog.cellsOf 24) (List.drop 1 [c0,c1,c2,c3,c4,c5]))=ys[1]?:=hf 1 _ rfl
 rw[z0,gE (by omega)] at g1
 replace g1:DataW.trod enc Tryz.prog W base spare held k 24 [c1]=some _:=g1
 obtain⟨v1,n1,e1,r1,w1⟩:=op_LL g1
 have g2:DataW.trod enc Tryz.prog W base spare held k 53 (List.take (Tryz.prog.cellsOf 53) (List.drop 2 [c0,c1,c2,c3,c4,c5]))=ys[2]?:=hf 2 _ rfl
 rw[z3,gE (by omega)] at g2
 replace g2:DataW.trod enc Tryz.prog W base spare held k 53 [c2]=some _:=g2
 obtain⟨v2,n2,e2,r2,w2⟩:=op_LTrack g2
 have g3:DataW.trod enc Tryz.prog W base spare held k 26 (List.take (Tryz.prog.cellsOf 26) (List.drop 3 [c0,c1,c2,c3,c4,c5]))=ys[3]?:=hf 3 _ rfl
 rw[z1,gE (by omega)] at g3
 replace g3:DataW.trod enc Tryz.prog W base spare held k 26 [c3]=some _:=g3
 obtain⟨v3,n3,e3,r3,w3⟩:=op_LI g3
 have g4:DataW.trod enc Tryz.prog W base spare held k 54 (List.take (Tryz.prog.cellsOf 54) (List.drop 4 [c0,c1,c2,c3,c4,c5]))=ys[4]?:=hf 4 _ rfl
 rw[z2,gE (by omega)] at g4
 replace g4:DataW.trod enc Tryz.prog W base spare held k 54 [c4]=some _:=g4
 obtain⟨v4,n4,e4,r4,w4⟩:=op_LPatch g4
 have g5:DataW.trod enc Tryz.prog W base spare held k 57 (List.take (Tryz.prog.cellsOf 57) (List.drop 5 [c0,c1,c2,c3,c4,c5]))=ys[5]?:=hf 5 _ rfl
 rw[z5,gE (by omega)] at g5
 replace g5:DataW.trod enc Tryz.prog W base spare held k 57 [c5]=some _:=g5
 obtain⟨n5,r5,w5⟩:=op_Mixer g5
 obtain rfl:c0=_:=(List.cons.inj e0).1
 obtain rfl:c1=v1:=(List.cons.inj e1).1
 obtain rfl:c2=v2:=(List.cons.inj e2).1
 obtain rfl:c3=v3:=(List.cons.inj e3).1
 obtain rfl:c4=v4:=(List.cons.inj e4).1
 refine⟨⟨n0,n1,n2,n3,n4,n5⟩,?_,⟨w0,w1,w2,w3,w4,w5⟩⟩
 obtain⟨s5_0,he5,sr5_0⟩:=xU.yO r5
 simp only[List.cons.injEq,and_true] at he5
 subst he5
 unfold xK.fs
 exact T.c_rn (T.c_rl r1 (T.c_rl r2 (T.c_rl r3 (T.c_rl r4 (T.c_rl sr5_0 (T.c_re))))))
end
end Go.Proofs.YtoibekfhepnedaaGreat
