/- The mix of a valid session: lengths, samples, waits. Rows of numbers that a call owns, laid open. Memory while a mix is made: the inputs of all strips, the outputs, the times at which they are right. Contracts: copies of the program. -/
import Derived.Test.YtoibekfhepnedaaGreatQAxExactSoundCache
import Derived.Test.YtoibekfhepnedaaGreatQBbExactSoundCache
import Derived.Test.YtoibekfhepnedaaGreatQAyExactSoundCache
import Derived.Test.YtoibekfhepnedaaGreatQAvExactSoundCache
import Derived.Test.YtoibekfhepnedaaGreatQBdExactSoundCache
import Derived.Test.YtoibekfhepnedaaGreatQAaExactSoundCache
import Derived.Test.YtoibekfhepnedaaGreatQAeExactSoundCache
import Derived.Test.YtoibekfhepnedaaGreatQAhExactSoundCache
set_option linter.unusedVariables false
set_option linter.unusedSimpArgs false
set_option maxHeartbeats 2000000
set_option maxRecDepth 20000
section
namespace Go.Proofs.YtoibekfhepnedaaGreat
open Go.RowKit
section
variable {i:Nat} {lat:Int} {out:List Int} {l:List GSend}
theorem entS_keep {j:Nat} (hj: ∀ s ∈ l,s.zV.toNat≠j): ∀ k,(entS i lat out l k).getD j 0=out.getD j 0
 |0=>rfl
 |k+1=>by
  have ih:=entS_keep hj k
  simp only[entS]
  split
  ·next s hs=>rw[lgetD_ne (hj s (List.mem_of_getElem? hs))];exact ih
  ·exact ih
theorem entS_grow (j k:Nat):(entS i lat out l k).getD j 0≤(entS i lat out l (k+1)).getD j 0:=by
 simp only[entS]
 split
 ·next s hs=>
  by_cases e:s.zV.toNat=j
  ·subst e
   by_cases hl:s.zV.toNat<(entS i lat out l k).length
   ·rw[lgetD_self hl];exact Int.le_max_left _ _
   ·rw[List.set_eq_of_length_le (by omega)];exact Int.le_refl _
  ·rw[lgetD_ne e];exact Int.le_refl _
 ·exact Int.le_refl _
theorem entS_ge (j:Nat): ∀ k,out.getD j 0≤(entS i lat out l k).getD j 0
 |0=>Int.le_refl _
 |k+1=>Int.le_trans (entS_ge j k) (entS_grow j k)
theorem entS_hit {q:Nat} {s:GSend} (hs:l[q]?=some s) (hi: ∀ s ∈ l,s.zV.toNat≠i) (hl:s.zV.toNat<out.length): ∀ k,q<k→out.getD i 0+lat≤(entS i lat out l k).getD s.zV.toNat 0
 |0,h=>absurd h (by omega)
 |k+1,h=>by
  by_cases e:k=q
  ·subst e
   simp only[entS,hs]
   rw[lgetD_self (by rw[length_entS];exact hl),entS_keep hi]
   exact Int.le_max_right _ _
  ·exact Int.le_trans (entS_hit hs hi hl k (by omega)) (entS_grow _ k)
end
section
variable {l:List GStrip}
theorem entUp_grow (j k:Nat):(entUp l k).getD j 0≤(entUp l (k+1)).getD j 0:=by
 simp only[entUp]
 split
 ·exact entS_ge j _
 ·exact Int.le_refl _
theorem entUp_ge (j k:Nat): ∀ d,(entUp l k).getD j 0≤(entUp l (k+d)).getD j 0
 |0=>Int.le_refl _
 |d+1=>Int.le_trans (entUp_ge j k d) (entUp_grow j (k+d))
theorem entUp_keep (hto: ∀ (i:Nat) (x:GStrip),l[i]?=some x→ ∀ s ∈ x.zJ,i<s.zV.toNat) (i:Nat): ∀ d,(entUp l (i+d)).getD i 0=(entUp l i).getD i 0
 |0=>rfl
 |d+1=>by
  have ih:=entUp_keep hto i d
  rw[←Nat.add_assoc]
  simp only[entUp]
  split
  ·next x hx=>rw[entS_keep (fun s hs=>by have:=hto _ _ hx s hs;omega)];exact ih
  ·exact ih
end
theorem mix_forward {m:GMixer} (h:MixerOk m): ∀ (i:Nat) (x:GStrip),m.zC[i]?=some x→ ∀ s ∈ x.zJ,i<s.zV.toNat:=by
 intro i x hx s hs
 obtain⟨k,hk⟩:=List.mem_iff_getElem?.1 hs
 have:=mixer_to h hx k s hk
 omega
/-- A send waits for nothing, or some samples. -/
theorem wait_ok {m:GMixer} (h:MixerOk m) {i:Nat} {x:GStrip} (hx:m.zC[i]?=some x) {q:Nat} {s:GSend} (hs:x.zJ[q]?=some s):0≤waitN (entriesF m) i x s∧waitN (entriesF m) i x s≤256:=by
 have hf:=mix_forward h
 have hi:i<m.zC.length:=(List.getElem?_eq_some_iff.1 hx).1
 have hq:q<x.zJ.length:=(List.getElem?_eq_some_iff.1 hs).1
 have ht:=mixer_to h hx q s hs
 have hm:=hf i x hx s (List.mem_of_getElem? hs)
 have hl:=inB_true.1 (h.each i x hx).1.latency
 have e1:(entriesF m).getD i 0=(entUp m.zC i).getD i 0:=by
  have:=entUp_keep hf i (m.zC.length - i)
  rw[show i+(m.zC.length - i)=m.zC.length by omega] at this
  exact this
 have e2:(entUp m.zC (i+1)).getD s.zV.toNat 0≤(entriesF m).getD s.zV.toNat 0:=by
  have:=entUp_ge (l:=m.zC) s.zV.toNat (i+1) (m.zC.length - (i+1))
  rw[show i+1+(m.zC.length - (i+1))=m.zC.length by omega] at this
  exact this
 have e3:(entUp m.zC i).getD i 0+x.zI≤(entUp m.zC (i+1)).getD s.zV.toNat 0:=by
  simp only[entUp,hx]
  exact entS_hit hs (fun s' hs' e=>by have:=hf i x hx s' hs';omega) (by rw[length_entUp];omega) _ hq
 have u1:=entriesF_upper h i
 have u2:=entriesF_upper h s.zV.toNat
 unfold waitN
 omega
/-- Signals of one length. -/
structure InsOk (m n:Nat) (ins:List (List Int)):Prop where
 len:ins.length=m
 each: ∀ l ∈ ins,l.length=n∧ ∀ y ∈ l,Smp y
section
variable {m n:Nat} {ins:List (List Int)}
theorem InsOk.get (h:InsOk m n ins) {i:Nat} (hi:i<m): ∃ l,ins[i]?=some l∧ins.getD i []=l∧l.length=n∧ ∀ y ∈ l,Smp y:=by
 have hg:=List.getElem?_eq_getElem (show i<ins.length by rw[h.len];exact hi)
 have:=h.each _ (List.mem_of_getElem? hg)
 exact⟨_,hg,by rw[List.getD_eq_getElem?_getD,hg];rfl,this.1,this.2⟩
theorem InsOk.set (h:InsOk m n ins) (i:Nat) {l:List Int} (h1:l.length=n) (h2: ∀ y ∈ l,Smp y):InsOk m n (ins.set i l):=by
 refine⟨by rw[List.length_set,h.len],fun l' hl'=>?_⟩
 rcases List.mem_or_eq_of_mem_set hl' with e|e
 ·exact h.each l' e
 ·subst e;exact⟨h1,h2⟩
theorem InsOk.add (h:InsOk m n ins) {i:Nat} (hi:i<m) {b:List Int} (hb:b.length=n) (g:Int):InsOk m n (ins.set i (addS (ins.getD i []) b g)):=by
 obtain⟨l,_,e,h1,_⟩:=h.get hi
 rw[e]
 exact h.set i (by rw[length_addS,h1,hb,Nat.max_self]) smp_addS
end
theorem ins_zero (m n:Nat):InsOk m n (List.replicate m (List.replicate n 0)):=
 ⟨by simp,fun l hl=>by rw[(List.mem_replicate.1 hl).2];exact⟨by simp,smp_zeros⟩⟩
theorem feedUp_ok {s:GSession} (h:SessionOk s) (n:Nat): ∀ k,InsOk s.zF.zC.length n (feedUp s n k)
 |0=>ins_zero _ _
 |k+1=>by
  have ih:=feedUp_ok h n k
  simp only[feedUp]
  split
  ·next t f ht hf=>exact ih.add (by have:=h.feeds k f hf;omega) (length_lateF _ _ _) 1
  ·exact ih
theorem sendUp_ok {m n:Nat} {y:List Int} {waits:List Int} {l:List GSend} {ins:List (List Int)} (h:InsOk m n ins) (hto: ∀ s ∈ l,s.zV.toNat<m): ∀ k,InsOk m n (sendUp y n waits l ins k)
 |0=>h
 |k+1=>by
  have ih:=sendUp_ok (y:=y) (waits:=waits) h hto k
  simp only[sendUp]
  split
  ·next s hs=>exact ih.add (hto s (List.mem_of_getElem? hs)) (length_lateF _ _ _) _
  ·exact ih
/-- Rendering stays within samples. -/
theorem frameF_smp {ins:List (List Int)} (h: ∀ l ∈ ins,∀ y ∈ l,Smp y) (t:Nat): ∀ y ∈ frameF ins t,Smp y:=by
 intro y hy
 unfold frameF at hy
 obtain⟨l,hl,rfl⟩:=List.mem_map.1 hy
 exact smpAt_smp (h l hl) _
theorem cellsAt_ok {p:GPatch} (h:PatchOk p) {ins:List (List Int)} (hi: ∀ l ∈ ins,∀ y ∈ l,Smp y): ∀ t,StOk p (cellsAt p ins t)
 |0=>st_start h
 |t+1=>st_next h (cellsAt_ok h hi t) (frameF_smp hi t) (valsF_smp h (cellsAt_ok h hi t) (frameF_smp hi t))
theorem valsAt_smp {p:GPatch} (h:PatchOk p) {ins:List (List Int)} (hi: ∀ l ∈ ins,∀ y ∈ l,Smp y) (t:Nat): ∀ y ∈ valsAt p ins t,Smp y:=
 valsF_smp h (cellsAt_ok h hi t) (frameF_smp hi t)
theorem length_valsAt (p:GPatch) (ins:List (List Int)) (t:Nat):(valsAt p ins t).length=p.zB.length:=length_valsF
/-- The one output of an effect: its first samples. -/
def rowF (p:GPatch) (y:List Int) (n:Nat):List Int:=(List.range n).map fun t=>(valsAt p [y] t).getD (p.zL.getD 0 0).toNat 0
theorem length_rowF (p:GPatch) (y:List Int) (n:Nat):(rowF p y n).length=n:=by simp[rowF]
theorem rowF_snoc (p:GPatch) (y:List Int) (n:Nat):rowF p y (n+1)=rowF p y n++ [(valsAt p [y] n).getD (p.zL.getD 0 0).toNat 0]:=by simp[rowF,List.range_succ]
theorem rowF_smp {p:GPatch} (h:PatchOk p) {y:List Int} (hy: ∀ z ∈ y,Smp z) (n:Nat): ∀ z ∈ rowF p y n,Smp z:=by
 intro z hz
 unfold rowF at hz
 obtain⟨t,_,rfl⟩:=List.mem_map.1 hz
 exact smp_getD (valsAt_smp h (fun l hl=>by simp at hl;subst hl;exact hy) t) _
theorem render_row {p:GPatch} (h:p.zL.length=1) (y:List Int) (n:Nat):renderF p [y] n= [rowF p y n]:=by
 unfold renderF rowF
 match hp:p.zL with
 | []=>rw[hp] at h;simp at h
 | [o]=>rfl
 |o :: o' :: r=>rw[hp] at h;simp at h
theorem effF_row {p:GPatch} (h:p.zL.length=1) (hn: ¬ p=noPatch) (y:List Int) (n:Nat):effF p y n=rowF p y n:=by
 unfold effF;rw[if_neg hn,render_row h];rfl
theorem effF_ok {p:GPatch} (h:EffectOk p) {y:List Int} {n:Nat} (hl:y.length=n) (hy: ∀ z ∈ y,Smp z):(effF p y n).length=n∧ ∀ z ∈ effF p y n,Smp z:=by
 by_cases e:p=noPatch
 ·unfold effF;rw[if_pos e];exact⟨hl,hy⟩
 ·rcases h with h|⟨h1,_,h3⟩
  ·exact absurd h e
  ·rw[effF_row h3 e];exact⟨length_rowF _ _ _,rowF_smp h1 hy n⟩
theorem stripY_ok {s:GSession} {n:Nat} {ins:List (List Int)} {i:Nat} {x:GStrip} (hs:SessionOk s) (h:InsOk s.zF.zC.length n ins) (hi:i<s.zF.zC.length):(stripY s n ins i x).length=n∧ ∀ z ∈ stripY s n ins i x,Smp z:=by
 unfold stripY
 obtain⟨l,_,e,h1,h2⟩:=h.get hi
 have hg:=List.getElem?_eq_getElem (show i<s.zP.length by rw[hs.effect];exact hi)
 rw[e,List.getD_eq_getElem?_getD,hg]
 exact⟨length_lateF _ _ _,smp_lateF (effF_ok (hs.effects i _ hg) h1 h2).2⟩
theorem to_lt {m:GMixer} (h:MixerOk m) {i:Nat} {x:GStrip} (hx:m.zC[i]?=some x): ∀ s ∈ x.zJ,s.zV.toNat<m.zC.length:=by
 intro s hs
 obtain⟨k,hk⟩:=List.mem_iff_getElem?.1 hs
 have:=mixer_to h hx k s hk
 omega
/-- Behind the first strips. -/
theorem stripUp_ok {s:GSession} (h:SessionOk s) (n:Nat): ∀ k,k≤s.zF.zC.length→InsOk s.zF.zC.length n (stripUp s n k).1∧InsOk k n (stripUp s n k).2
 |0,_=>⟨feedUp_ok h n _,⟨rfl,fun l hl=>by simp[stripUp] at hl⟩⟩
 |k+1,hk=>by
  obtain⟨h1,h2⟩:=stripUp_ok h n k (by omega)
  have hg:=List.getElem?_eq_getElem (show k<s.zF.zC.length by omega)
  simp only[stripUp,hg]
  refine⟨sendUp_ok h1 (to_lt h.mixer hg) _,⟨by simp[h2.len],fun l hl=>?_⟩⟩
  rcases List.mem_append.1 hl with hl|hl
  ·exact h2.each l hl
  ·simp at hl;subst hl;exact stripY_ok h h1 (by omega)
theorem stripUp_step {s:GSession} {n k:Nat} {x:GStrip} (hx:s.zF.zC[k]?=some x):stripUp s n (k+1)=(sendUp (stripY s n (stripUp s n k).1 k x) n ((delaysF s.zF).getD k []) x.zJ (stripUp s n k).1 x.zJ.length,(stripUp s n k).2++ [stripY s n (stripUp s n k).1 k x]):=by
 simp only[stripUp,hx]
theorem feedUp_step {s:GSession} {n k:Nat} {t:GTrack} {f:Int} (ht:s.zO[k]?=some t) (hf:s.zS[k]?=some f):feedUp s n (k+1)=(feedUp s n k).set f.toNat (addS ((feedUp s n k).getD f.toNat []) (lateF (trackF s.zN t s.zG.toNat) ((entriesF s.zF).getD f.toNat 0).toNat n) 1):=by
 simp only[feedUp,ht,hf]
theorem sendUp_step {y:List Int} {n:Nat} {waits:List Int} {l:List GSend} {ins:List (List Int)} {k:Nat} {s:GSend} (hs:l[k]?=some s):sendUp y n waits l ins (k+1)=(sendUp y n waits l ins k).set s.zV.toNat (addS ((sendUp y n waits l ins k).getD s.zV.toNat []) (lateF y (waits.getD k 0).toNat n) s.zR):=by
 simp only[sendUp,hs]
theorem total_ok {m:GMixer} (h:MixerOk m):0≤totalF m∧totalF m≤288:=by
 have hn:=h.some_
 have hg:=List.getElem?_eq_getElem (show m.zC.length - 1<m.zC.length by omega)
 have h1:=entriesF_upper h (m.zC.length - 1)
 have h2:=inB_true.1 (h.each _ _ hg).1.latency
 unfold totalF
 rw[List.getD_eq_getElem?_getD (l:=m.zC),hg]
 simp only[Option.getD_some]
 omega
theorem outsF_ok {s:GSession} (h:SessionOk s):InsOk s.zF.zC.length (s.zG+totalF s.zF).toNat (outsF s):=(stripUp_ok h _ _ (Nat.le_refl _)).2
theorem length_mixF {s:GSession} :(mixF s).length=s.zG.toNat:=length_cutL _ _ _
theorem smpAt_zeros (l:List Int) (c:Nat) (i:Int):smpAt (l++List.replicate c 0) i=smpAt l i:=by
 unfold smpAt
 rw[List.length_append,List.length_replicate]
 by_cases h0:0≤i
 ·by_cases h1:i<(l.length:Int)
  ·rw[if_pos ⟨h0,by omega⟩,if_pos ⟨h0,h1⟩,List.getD_eq_getElem?_getD,List.getElem?_append_left (by omega),List.getD_eq_getElem?_getD]
  ·rw[show (if 0≤i∧i<(l.length:Int) then l.getD i.toNat 0 else 0)=0 from if_neg (fun h=>h1 h.2)]
   split
   ·rw[List.getD_eq_getElem?_getD,List.getElem?_append_right (by omega),List.getElem?_replicate]
    split<;>rfl
   ·rfl
 ·rw[if_neg (fun h=>h0 h.1),if_neg (fun h=>h0 h.1)]
/-- The program's way: tracks are made longer ahead. -/
theorem late_zeros (a:List Int) (c b n:Nat):lateF (a++List.replicate c 0) b n=lateF a b n:=by
 unfold lateF cutL
 rw[←List.append_assoc]
 apply List.map_congr_left
 intro i _
 exact smpAt_zeros _ _ _
/-- The times at which the strips are right. -/
def readyF (m:GMixer):List Int:=m.zC.mapIdx fun i x=>(entriesF m).getD i 0+x.zI
theorem length_readyF (m:GMixer):(readyF m).length=m.zC.length:=by simp[readyF]
theorem ready_at {m:GMixer} {k:Nat} {x:GStrip} (hx:m.zC[k]?=some x):(readyF m)[k]?=some ((entriesF m).getD k 0+x.zI):=by
 unfold readyF;rw[List.getElem?_mapIdx,hx];rfl
theorem ready_last {m:GMixer} (h:MixerOk m):(readyF m)[m.zC.length - 1]?=some (totalF m):=by
 have hn:=h.some_
 have hg:=List.getElem?_eq_getElem (show m.zC.length - 1<m.zC.length by omega)
 rw[ready_at hg]
 unfold totalF
 rw[List.getD_eq_getElem?_getD (l:=m.zC),hg]
 rfl
end Go.Proofs.YtoibekfhepnedaaGreat
end
section
namespace Go.Proofs.YtoibekfhepnedaaGreat
open Go.RowKit
theorem ows_rows {w:World} {E:TypeId} : ∀ (rows:List (List Int)) (G:List Nat) (es:List Value),T.ows w (rows.map (T.ints E)) G es→ ∀ (i:Nat) (l:List Int),rows[i]?=some l→ ∃ u:Value,es[i]?=some u∧OwI E w 0 u l∧ ∀ k,u.ownBlock=some k→k ∈ G
 | [],_,_,_,i,l,hl=>by simp at hl
 |l0 :: rows,G,es,h,i,l,hl=>by
  rw[List.map_cons] at h
  simp only[T.ows] at h
  obtain⟨F1,F2,c1,c2,rfl,rfl,h1,h2⟩:=h
  obtain⟨u,rfl⟩:=T.rd_one (T.ow_rd _ _ _ h1)
  cases i with
  |zero=>
   injection hl with hl
   subst hl
   obtain⟨h3,h4⟩:=T.ow_ints.1 h1
   exact⟨u,rfl,h3,fun k hk=>by rw[h4,hk];simp⟩
  |succ i=>
   obtain⟨u',h3,h4,h5⟩:=ows_rows rows F2 c2 h2 i l hl
   exact⟨u',h3,h4,fun k hk=>List.mem_append_right _ (h5 k hk)⟩
theorem own_base {E:TypeId} {w:World} {B:Nat} {v:Value} {xs:List Int} (h:OwI E w 0 v xs) (hb: ∀ k,v.ownBlock=some k→B≤k):OwI E w B v xs:=by
 refine⟨h.1,?_⟩
 rcases h.2 with hn|⟨g,cap,cur,rfl,_,rest⟩
 ·exact .inl hn
 ·exact .inr ⟨g,cap,cur,rfl,hb g rfl,rest⟩
/-- A slice of rows of the call's own, laid open: its block, and each row. -/
theorem Own.rows {B:Nat} {w:World} {t E:TypeId} {rows:List (List Int)} {F:List Nat} {v:Value} (h:Own B w (T.sl t 1 (rows.map (T.ints E))) F v) (hn:0<rows.length):
  ∃ (bc cap:Nat) (cs:Array Value),v= .slice (some ⟨bc,0,none⟩) rows.length cap∧rows.length≤cap∧B≤bc∧Bk w bc t cs∧ ∀ (i:Nat) (l:List Int),rows[i]?=some l→ ∃ u:Value,cs[i]?=some u∧OwI E w B u l∧u.ownBlock≠some bc∧ ∀ k,u.ownBlock=some k→B≤k∧k<w.heap.size:=by
 have hlo:=h.lo;have hnd:=h.nodup;have hlt:=h.lt
 have how:=h.ow
 simp only[T.ow] at how
 obtain⟨v',es,G,hv,rfl,_,h1,h2⟩:=how
 injection hv with hv
 subst hv
 obtain⟨hl,h1⟩:=h1
 rcases h1 with ⟨_,h0⟩|⟨g,cap,cur,rfl,_,hg,hcap,_,_,htk⟩
 ·rw[List.length_map] at h0;omega
 rw[List.length_map] at *
 rw[Nat.mul_one] at *
 refine⟨g,cap,cur,rfl,hcap,hlo g (by simp[Value.ownBlock]),hg,fun i l hi=>?_⟩
 obtain⟨u,h3,h4,h5⟩:=ows_rows rows G es h2 i l hi
 have hil:i<rows.length:=(List.getElem?_eq_some_iff.1 hi).1
 refine⟨u,?_,own_base h4 fun k hk=>hlo k (List.mem_append_right _ (h5 k hk)),fun e=>?_,fun k hk=>⟨hlo k (List.mem_append_right _ (h5 k hk)),hlt k (List.mem_append_right _ (h5 k hk))⟩⟩
 ·rw[←htk,List.getElem?_take_of_lt hil] at h3
  rw[←Array.getElem?_toList]
  exact h3
 ·rw[List.nodup_append] at hnd
  exact hnd.2.2 g (by simp[Value.ownBlock]) g (h5 g e) rfl
theorem startL_eq (x:GNode):startL x=startSt x:=rfl
end Go.Proofs.YtoibekfhepnedaaGreat
end
section
namespace Go.Proofs.YtoibekfhepnedaaGreat
open Go.RowKit
theorem own_grown {E:TypeId} {w w':World} {B:Nat} {row:Option Nat} {v:Value} {xs:List Int} (h:OwI E w B v xs) (hg:w.grownBy w' row) (hd: ∀ g,v.ownBlock=some g→row≠some g):OwI E w' B v xs:=
 ownsRow_keep (fun b hb=>hg.block b (h.lt b hb).2 (fun e=>hd b hb e.symm)) h
theorem Own.grown {B:Nat} {w w':World} {x:T} {F:List Nat} {v:Value} {row:Option Nat} (h:Own B w x F v) (hg:w.grownBy w' row) (hd: ∀ g ∈ F,row≠some g):Own B w' x F v:=
 ⟨T.ow_keep _ _ _ (fun b hb=>hg.block b (h.lt b hb) (fun e=>hd b hb e.symm)) h.ow,h.nodup,h.lo⟩
structure StM (w3 wr:World) (bi:Nat) (A F:List Nat) (cs:Array Value) (ins outs:List (List Int)) (vo vr:Value) (rdy:List Int):Prop where
 bel:Below w3.heap.size w3 wr
 lo:w3.heap.size≤bi
 cel:Cel wr bi A 26 cs ins
 outs:Own w3.heap.size wr (T.sl 26 1 (outs.map (T.ints 2))) F vo
 rdy:OwI 2 wr w3.heap.size vr rdy
 ai:bi ∈ A
 alt: ∀ q ∈ A,q<wr.heap.size
 af: ∀ g ∈ F,g ∈ A
 ar: ∀ g,vr.ownBlock=some g→g ∈ A
 nf:bi ∉ F
 nr: ∀ g,vr.ownBlock=some g→g≠bi∧g ∉ F
section
variable {w3 w w':World} {bi:Nat} {A F:List Nat} {cs:Array Value} {ins outs:List (List Int)} {vo vr:Value} {rdy:List Int}
theorem StM.below (h:StM w3 w bi A F cs ins outs vo vr rdy) (hb:Below w.heap.size w w'):StM w3 w' bi A F cs ins outs vo vr rdy:=
 ⟨yI h.bel h.bel.size hb,h.lo,h.cel.below hb,h.outs.all hb,own_all h.rdy hb,h.ai,fun q hq=>Nat.lt_of_lt_of_le (h.alt q hq) hb.size,h.af,h.ar,h.nf,h.nr⟩
/-- What a call has made counts among what the inputs avoid. -/
theorem StM.addv (h:StM w3 w bi A F cs ins outs vo vr rdy) (hb:Below w.heap.size w w') {v:Value} (hv: ∀ g,v.ownBlock=some g→w.heap.size≤g∧g<w'.heap.size):StM w3 w' bi (v.ownBlock.toList++A) F cs ins outs vo vr rdy:=
 ⟨yI h.bel h.bel.size hb,h.lo,h.cel.grow (grown_below hb none) (fun g e=>by cases e) (fun g hg=> .inr (hv g (by simpa using hg)).1),h.outs.all hb,own_all h.rdy hb,List.mem_append_right _ h.ai,fun q hq=>by
  rcases List.mem_append.1 hq with hq|hq
  ·exact(hv q (by simpa using hq)).2
  ·exact Nat.lt_of_lt_of_le (h.alt q hq) hb.size,fun g hg=>List.mem_append_right _ (h.af g hg),fun g hg=>List.mem_append_right _ (h.ar g hg),h.nf,h.nr⟩
/-- An input is replaced. -/
theorem StM.put (h:StM w3 w bi A F cs ins outs vo vr rdy) {i:Nat} {l0 l:List Int} {v:Value} (hi:ins[i]?=some l0) (hv:RdI w v l) (hn: ∀ q ∈ A,v.ownBlock≠some q) (hl: ∀ k,v.ownBlock=some k→k<w.heap.size):StM w3 (w.setCell ⟨bi,i,none⟩ v) bi A F (cs.setIfInBounds i v) (ins.set i l) outs vo vr rdy:=
 ⟨h.bel.setCell h.lo _,h.lo,h.cel.put hi hv h.ai hn hl,h.outs.grown (grown_set w bi i v) (fun g hg e=>by injection e with e;exact h.nf (by rw[e];exact hg)),own_grown h.rdy (grown_set w bi i v) (fun g hg e=>by injection e with e;exact(h.nr g hg).1 e.symm),h.ai,fun q hq=>by simpa[World.setCell] using h.alt q hq,h.af,h.ar,h.nf,h.nr⟩
/-- An output is appended. -/
theorem StM.out (h:StM w3 w bi A F cs ins outs vo vr rdy) {y:List Int} {v8:Value} {F8 Fx:List Nat} (h8:Own w3.heap.size w' (T.sl 26 1 ((outs++ [y]).map (T.ints 2))) F8 v8) (hg:w.grownBy w' vo.ownBlock) (hv: ∀ b ∈ F8,b ∈ F∨b ∈ Fx∨w.heap.size≤b) (hx: ∀ b ∈ Fx,b ∈ A∧b≠bi∧vr.ownBlock≠some b):StM w3 w' bi (F8++A) F8 cs ins (outs++ [y]) v8 vr rdy:=by
 have hvo: ∀ g,vo.ownBlock=some g→g ∈ F:=fun g hg=>h.outs.mem g hg
 have hrl: ∀ g,vr.ownBlock=some g→g<w.heap.size:=fun g hg=>(h.rdy.lt g hg).2
 have hbl:=h.cel.bk.lt
 refine⟨h.bel.grown hg h.bel.size (fun j hj=>h.outs.row j hj),h.lo,h.cel.grow hg (fun g e=>⟨h.af g (hvo g e),fun e2=>h.nf (by rw[e2];exact hvo g e)⟩) (fun g hg=>?_),h8,own_grown h.rdy hg (fun g hg e=>(h.nr g hg).2 (hvo g e)),List.mem_append_right _ h.ai,fun q hq=>(List.mem_append.1 hq).elim (fun hq=>h8.lt q hq) (fun hq=>Nat.lt_of_lt_of_le (h.alt q hq) hg.size),fun g hg=>List.mem_append_left _ hg,fun g hg=>List.mem_append_right _ (h.ar g hg),fun hm=>?_,fun g hg=>⟨(h.nr g hg).1,fun hm=>?_⟩⟩
 ·rcases hv g hg with h1|h1|h1
  ·exact .inl (h.af g h1)
  ·exact .inl (hx g h1).1
  ·exact .inr h1
 ·rcases hv bi hm with h1|h1|h1
  ·exact h.nf h1
  ·exact(hx bi h1).2.1 rfl
  ·omega
 ·rcases hv g hm with h1|h1|h1
  ·exact(h.nr g hg).2 h1
  ·exact(hx g h1).2.2 hg
  ·have:=hrl g hg;omega
/-- A time is appended. -/
theorem StM.time (h:StM w3 w bi A F cs ins outs vo vr rdy) {z:Int} {v8:Value} (h8:OwI 2 w' w3.heap.size v8 (rdy++ [z])) (hg:w.grownBy w' vr.ownBlock) (hv: ∀ k,v8.ownBlock=some k→vr.ownBlock=some k∨w.heap.size≤k):StM w3 w' bi (v8.ownBlock.toList++A) F cs ins outs vo v8 (rdy++ [z]):=by
 have hbl:=h.cel.bk.lt
 refine⟨h.bel.grown hg h.bel.size (fun j hj=>(h.rdy.lt j hj).1),h.lo,h.cel.grow hg (fun g e=>⟨h.ar g e,fun e2=>(h.nr g e).1 e2.symm⟩) (fun g hg=>?_),h.outs.grown hg (fun g hg e=>(h.nr g e).2 hg),h8,List.mem_append_right _ h.ai,fun q hq=>(List.mem_append.1 hq).elim (fun hq=>(h8.lt q (by simpa using hq)).2) (fun hq=>Nat.lt_of_lt_of_le (h.alt q hq) hg.size),fun g hg=>List.mem_append_right _ (h.af g hg),fun g hg=>List.mem_append_left _ (by rw[hg];simp),h.nf,fun g hg=>?_⟩
 ·rcases hv g (by simpa using hg) with h1|h1
  ·exact .inl (h.ar g h1)
  ·exact .inr h1
 ·rcases hv g hg with h1|h1
  ·exact h.nr g h1
  ·exact⟨by omega,fun hm=>by have:=h.outs.lt g hm;omega⟩
/-- The lists of outputs and of times are begun. -/
theorem StM.two (h:StM w3 w bi [bi] [] cs ins [] (.slice none 0 0) (.slice none 0 0) []):StM w3 ((w.alloc (.cells #[] 26)).alloc (.cells #[] 2)) bi [w.heap.size,w.heap.size+1,bi] [w.heap.size] cs ins [] (.slice (some ⟨w.heap.size,0,none⟩) 0 0) (.slice (some ⟨w.heap.size+1,0,none⟩) 0 0) []:=by
 have hs:=h.bel.size
 have hlb:=h.cel.bk.lt
 have hb:Below w.heap.size w ((w.alloc (.cells #[] 26)).alloc (.cells #[] 2)):=((Below.refl _ _).alloc (Nat.le_refl _) _).alloc (by simp) _
 have ho:=Own.born (B:=w.heap.size) (World.ownsRow_made w #[] 0 (Nat.le_refl _) (by decide) rfl:(w.alloc (.cells #[] 26)).ownsRow w.heap.size 26 1 (.slice (some ⟨w.heap.size,0,none⟩) 0 0) 0 [])
 have ho2:=(ho.all ((Below.refl (w.alloc (.cells #[] 26)).heap.size (w.alloc (.cells #[] 26))).alloc (Nat.le_refl _) (.cells #[] 2))).more hs
 have hr:OwI 2 ((w.alloc (.cells #[] 26)).alloc (.cells #[] 2)) w3.heap.size (.slice (some ⟨w.heap.size+1,0,none⟩) 0 0) []:=by
  have h2:=(new_i64 (w.alloc (.cells #[] 26))).more (B':=w3.heap.size) (by simp;omega)
  simpa using h2
 refine⟨yI h.bel h.bel.size hb,h.lo,h.cel.grow (grown_below hb none) (fun g e=>by cases e) (G:= [w.heap.size,w.heap.size+1]) (fun g hg=> .inr (by simp at hg;omega)),by simpa[Value.ownBlock] using ho2,hr,by simp,by simp;omega,by simp,by simp[Value.ownBlock],by simp;omega,by simp[Value.ownBlock];omega⟩
end
/-- Inputs being made: the first ones are zeros, the others nothing. -/
def insUp (m k:Nat) (Z:List Int):List (List Int):=List.replicate k Z++List.replicate (m - k) []
theorem insUp_step {m k:Nat} {Z:List Int} (h:k<m):insUp m k Z=insUp m k Z∧(insUp m k Z)[k]?=some []∧(insUp m k Z).set k Z=insUp m (k+1) Z:=by
 refine⟨rfl,?_,?_⟩
 ·unfold insUp
  rw[List.getElem?_append_right (by simp),List.length_replicate,Nat.sub_self,List.getElem?_replicate]
  simp;omega
 ·unfold insUp
  rw[List.set_append_right _ _ (by simp),List.length_replicate,Nat.sub_self,show m - k=(m - (k+1))+1 by omega,List.replicate_succ,List.set_cons_zero,List.replicate_succ']
  simp
theorem insUp_all (m:Nat) (Z:List Int):insUp m m Z=List.replicate m Z:=by simp[insUp]
end Go.Proofs.YtoibekfhepnedaaGreat
end
section
namespace Go.Proofs.YtoibekfhepnedaaGreat
open Go.RowKit
theorem c_clones (v:Value) (xs:List (List Int)) (w:World) (hs:smL (fun l:List Int=>l.length≤1048576) xs) (hr:T.rd w (T.sl 26 1 (xs.map (T.ints 2))) [v]):
  Calls Tryz.prog 111 #[v] w fun e w'=> ∃ v' F,e= .returned v'∧Own w.heap.size w' (T.sl 26 1 (xs.map (T.ints 2))) F v'∧Below w.heap.size w w':=by
 obtain⟨A,cap,rfl,hl,hc,hx⟩:=T.yM hr
 have HX:=hide hx;have HS:=hide hs;clear hx hr hs
 have HL:=hide HS.out.1
 have HO0:=hide (Own.born (World.ownsRow_made w #[] 0 (Nat.le_refl _) (by decide) rfl:(w.alloc (.cells #[] 26)).ownsRow w.heap.size 26 1 (.slice (some ⟨w.heap.size,0,none⟩) 0 0) 0 []))
 have HB0:=hide (show Below w.heap.size w (w.alloc (.cells #[] 26)) from(Below.refl _ _).alloc (Nat.le_refl _) _)
 go_enter Tryz.func111,Tryz.ntmps111
 go_wp2
 go_loopw [3,9] (fun r i wr=> ∃ k F,k≤xs.length∧i= .int .i64 (k:Int)∧Own w.heap.size wr (T.sl 26 1 ((xs.take k).map (T.ints 2))) F r∧Below w.heap.size w wr) (fun _ i _=>xs.length - (intOf i).toNat)
 case atStart=>exact⟨0,_,Nat.zero_le _,rfl,by rw[List.take_zero];exact HO0.out,HB0.out⟩
 case round=>
  obtain⟨k,F,hk,rfl,ho,hb⟩:=hrel
  have HO:=hide ho;have HB:=hide hb;clear ho hb
  by_cases hlt:k<xs.length
  ·have hgk:=List.getElem?_eq_getElem hlt
   obtain⟨b,off,cs,rfl,hb,hcs,hcell⟩:=HX.out k xs[k] hgk
   have hll:=HS.out.2 xs[k] (List.getElem_mem hlt)
   generalize xs[k]=l at *
   have HG:=hide hgk;clear hgk
   obtain⟨v3,rfl⟩:=T.rd_one hcs
   have d0:=(HB.out.cell hb).trans (hcell 0 v3 rfl)
   rw[Nat.mul_one,Nat.add_zero] at d0
   have hb2:b<wr.heap.size:=Nat.lt_of_lt_of_le hb HB.out.size
   have R:=hide (T.yR.1 hcs);clear hcs hcell
   obtain⟨A3,c3,rfl,l3,m3,x3⟩:=R.out.open_
   clear x3
   have HLL:=hide hll;clear hll
   go_wp2_with fail
   refine(c_clone _ l _ (Rd.below R.out HB.out) HLL.out).mono ?_;rintro e w1 ⟨v1,rfl,ho1,hb1⟩
   obtain⟨A1,c1,rfl,-,-,-⟩:=ho1.rd.open_
   have HN1:=hide (Nv.ints ho1 hb1)
   have HO1:=hide (HO.out.all hb1);have HB1:=hide (yI HB.out HB.out.size hb1)
   have hsz:wr.heap.size≤w1.heap.size:=hb1.size
   clear ho1 hb1
   go_wp2_with (at_builtin;refine app1_T rfl _ _ _ rfl w.heap.size 26 _ 1 24 Tryz.underlying24 info_Int64SS rfl (by omega) rfl HO1.out HN1.out.ow HN1.out.nodup (fun b hb=>Nat.le_trans HB.out.size (HN1.out.lo b hb)) (fun b hb hb2=>by have h1:=HO.out.lt b hb;have h2:=HN1.out.lo b hb2;omega) rfl rfl (by rw[List.length_map,List.length_take];have:=HL.out;omega) (by rw[List.length_map,List.length_take];have:=HL.out;omega) HB1.out.size ?_;intro v8 w8 F8 ho8 hg8 hv8;have HO8:=hide ho8;have HB8:=hide (HO1.out.below HB1.out HB1.out.size hg8);clear ho8 hg8 hv8)
   go_roundw
   case rel=>exact⟨k+1,F8,by omega,by go_num,by rw[take_snoc_of HG.out,List.map_append];exact HO8.out,HB8.out⟩
   case measure=>simp[intOf];omega
  ·obtain rfl:k=xs.length:=by omega
   go_wp2
   go_ret
   exact⟨_,F,rfl,by have:=HO.out;rwa [List.take_length] at this,HB.out⟩
end Go.Proofs.YtoibekfhepnedaaGreat
end
