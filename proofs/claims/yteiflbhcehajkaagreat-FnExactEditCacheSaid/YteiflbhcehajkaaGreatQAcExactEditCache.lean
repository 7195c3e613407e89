/- Edits, in plain words. Edits taken back, in plain words. The range of an edit, in plain words. The cache after an edit, in plain words. Words: a slice of elements opened; a struct behind a pointer. -/
import Derived.Test.YteiflbhcehajkaaGreatQAbExactEditCache
import Derived.Test.YteiflbhcehajkaaGreatQAaExactEditCache
set_option linter.unusedVariables false
set_option linter.unusedSimpArgs false

section
namespace Go.Proofs.YteiflbhcehajkaaGreat
open Go.RowKit
def noClip:GClip:=⟨0,0,0,0,0⟩
def noSession:GSession:=⟨0,[],[],[],[],⟨[]⟩⟩
def FieldsOk (e:GEdit):Prop:=
 if e.zC=1∨e.zC=3 then e.zY=0∧ClipOk e.zP
 else if e.zC=2 then e.zY=0∧e.zP=noClip
 else if e.zC=4 then e.zZ=0∧e.zP=noClip
 else if e.zC=5 then e.zP=noClip
 else False
def clipsAt (s:GSession) (t:Int):List GClip:=((s.zE[t.toNat]?).map GTrack.zL).getD []
def sendsAt (s:GSession) (t:Int):List GSend:=((s.zF.zD[t.toNat]?).map GStrip.zS).getD []
theorem clipsAt_of {s:GSession} {k:Nat} {x:GTrack} (h:s.zE[k]?=some x):clipsAt s (k:Int)=x.zL:=by
 unfold clipsAt;rw[Int.toNat_natCast,h];rfl
theorem sendsAt_of {s:GSession} {k:Nat} {x:GStrip} (h:s.zF.zD[k]?=some x):sendsAt s (k:Int)=x.zS:=by
 unfold sendsAt;rw[Int.toNat_natCast,h];rfl
def RangeOk (s:GSession) (e:GEdit):Prop:=
 if e.zC=5 then inB e.zV 0 ((s.zF.zD.length:Int) - 1)=true∧inB e.zZ 0 (((sendsAt s e.zV).length:Int) - 1)=true∧Smp e.zY
 else inB e.zV 0 ((s.zE.length:Int) - 1)=true∧
  (if e.zC=1 then inB e.zZ 0 ((clipsAt s e.zV).length:Int)=true∧e.zP.zO<(s.zG.length:Int)
  else if e.zC=3 then inB e.zZ 0 (((clipsAt s e.zV).length:Int) - 1)=true∧e.zP.zO<(s.zG.length:Int)
  else if e.zC=2 then inB e.zZ 0 (((clipsAt s e.zV).length:Int) - 1)=true
  else inB e.zY 0 ((s.zF.zD.length:Int) - 1)=true)
def editL (l:List GClip) (e:GEdit):List GClip:=
 if e.zC=1 then l.take e.zZ.toNat++e.zP :: l.drop e.zZ.toNat
 else if e.zC=2 then l.take e.zZ.toNat++l.drop (e.zZ.toNat+1)
 else l.take e.zZ.toNat++e.zP :: l.drop (e.zZ.toNat+1)
def turnAt {α:Type} (l:List α) (k:Nat) (f:α→α):List α:=match l[k]? with|some x=>l.set k (f x)|none=>l
theorem turnAt_of {α:Type} {l:List α} {k:Nat} {f:α→α} {x:α} (h:l[k]?=some x):turnAt l k f=l.set k (f x):=by unfold turnAt;rw[h]
theorem length_turnAt {α:Type} (l:List α) (k:Nat) (f:α→α):(turnAt l k f).length=l.length:=by
 unfold turnAt
 split<;>simp
theorem turnAt_get {α:Type} {l:List α} {k:Nat} {f:α→α} {i:Nat} :(turnAt l k f)[i]?=(l[i]?).map (fun x=>if i=k then f x else x):=by
 unfold turnAt
 split
 ·next x h=>
  by_cases e:i=k
  ·subst e
   rw[List.getElem?_set_self (List.getElem?_eq_some_iff.1 h).1,h];simp
  ·rw[List.getElem?_set_ne (fun h=>e h.symm)]
   cases l[i]?<;>simp[e]
 ·next h=>
  by_cases e:i=k
  ·subst e;rw[h];rfl
  ·cases l[i]?<;>simp[e]
def doE (s:GSession) (e:GEdit):GSession:=
 if e.zC=4 then { s with zK:=s.zK.set e.zV.toNat e.zY }
 else if e.zC=5 then { s with zF:=⟨turnAt s.zF.zD e.zV.toNat fun x=> { x with zS:=turnAt x.zS e.zZ.toNat fun y=> { y with zQ:=e.zY } }⟩ }
 else { s with zE:=turnAt s.zE e.zV.toNat fun x=>⟨editL x.zL e⟩ }
noncomputable def applyF (s:GSession) (e:GEdit):GSession × Int:=
 if tf (SessionOk s∧FieldsOk e)=true then
  (if tf (RangeOk s e)=true then
   (if e.zC=1∧12≤(clipsAt s e.zV).length then (noSession,5)
   else if tf (SessionOk (doE s e))=true then (doE s e,0) else (noSession,6))
  else (noSession,2))
 else (noSession,1)
section
variable {s:GSession} {e:GEdit}
theorem fields_kind (h:FieldsOk e):e.zC=1∨e.zC=2∨e.zC=3∨e.zC=4∨e.zC=5:=by
 unfold FieldsOk at h
 by_cases h1:e.zC=1
 ·exact .inl h1
 by_cases h2:e.zC=2
 ·exact .inr (.inl h2)
 by_cases h3:e.zC=3
 ·exact .inr (.inr (.inl h3))
 by_cases h4:e.zC=4
 ·exact .inr (.inr (.inr (.inl h4)))
 by_cases h5:e.zC=5
 ·exact .inr (.inr (.inr (.inr h5)))
 ·simp[h1,h2,h3,h4,h5] at h
theorem doE_feed (h:SessionOk s) (hr:RangeOk s e) (hk:e.zC=4):SessionOk (doE s e):=by
 unfold RangeOk at hr
 simp only[hk] at hr
 have hv:=inB_true.1 (show inB e.zY 0 ((s.zF.zD.length:Int) - 1)=true by simpa using hr.2)
 unfold doE
 rw[if_pos hk]
 exact⟨h.length,h.sources,h.few,h.mixer,by simpa using h.feed,fun i x hx=>by
  have hx:(s.zK.set e.zV.toNat e.zY)[i]?=some x:=hx
  rw[List.getElem?_set] at hx
  split at hx
  ·split at hx
   ·injection hx with hx;subst hx;exact⟨hv.1,by show e.zY≤(s.zF.zD.length:Int) - 1;omega⟩
   ·cases hx
  ·exact h.feeds i x hx,h.effect,h.tracks,h.effects⟩
theorem befS_turn (l:List GSend) (k:Nat) (v strip:Int) (i:Nat):befS (turnAt l k fun y=> { y with zQ:=v }) strip i=befS l strip i:=by
 unfold befS
 split
 ·rfl
 ·rw[List.getD_eq_getElem?_getD,List.getD_eq_getElem?_getD,turnAt_get]
  cases l[i - 1]? with
  |none=>rfl
  |some y=>
   simp only[Option.map_some,Option.getD_some]
   split<;>rfl
theorem sends_turn {l:List GSend} {strip n v:Int} {k:Nat} (h:SendsOk l strip n) (hv:Smp v):SendsOk (turnAt l k fun y=> { y with zQ:=v }) strip n:=by
 refine⟨fun i x hx=>?_,fun e=>by rw[length_turnAt];exact h.last e,fun e=>by rw[length_turnAt];exact h.few e⟩
 show inB x.yB (befS (turnAt l k fun y=> { y with zQ:=v }) strip i+1) (n - 1)=true∧Smp x.zQ
 rw[befS_turn]
 rw[turnAt_get] at hx
 cases hg:l[i]? with
 |none=>rw[hg] at hx;cases hx
 |some y=>
  rw[hg] at hx
  simp only[Option.map_some] at hx
  injection hx with hx
  have hy:=h.each i y hg
  subst hx
  split
  ·exact⟨hy.1,hv⟩
  ·exact hy
theorem doE_send (h:SessionOk s) (hr:RangeOk s e) (hk:e.zC=5):SessionOk (doE s e):=by
 unfold RangeOk at hr
 rw[if_pos hk] at hr
 have hv:=hr.2.2
 unfold doE
 rw[if_neg (by omega),if_pos hk]
 have hlen:(turnAt s.zF.zD e.zV.toNat fun x=> { x with zS:=turnAt x.zS e.zZ.toNat fun y=> { y with zQ:=e.zY } }).length=s.zF.zD.length:=length_turnAt _ _ _
 refine⟨h.length,h.sources,h.few,⟨by rw[hlen];exact h.mixer.some_,by rw[hlen];exact h.mixer.few,fun i x hx=>?_⟩,h.feed,by rw[hlen];exact h.feeds,by rw[hlen];exact h.effect,h.tracks,h.effects⟩
 rw[hlen]
 have hx:(turnAt s.zF.zD e.zV.toNat fun x=> { x with zS:=turnAt x.zS e.zZ.toNat fun y=> { y with zQ:=e.zY } })[i]?=some x:=hx
 rw[turnAt_get] at hx
 cases hg:s.zF.zD[i]? with
 |none=>rw[hg] at hx;cases hx
 |some x0=>
  rw[hg] at hx
  simp only[Option.map_some] at hx
  injection hx with hx
  obtain⟨h1,h2⟩:=h.mixer.each i x0 hg
  have hn:x.zX=x0.zX:=by subst hx;split<;>rfl
  refine⟨?_,fun j y hj hy=>?_⟩
  ·subst hx
   split
   ·exact⟨h1.name,h1.latency,sends_turn h1.sends hv⟩
   ·exact h1
  ·have hy:(turnAt s.zF.zD e.zV.toNat fun x=> { x with zS:=turnAt x.zS e.zZ.toNat fun y=> { y with zQ:=e.zY } })[j]?=some y:=hy
   rw[turnAt_get] at hy
   cases hg2:s.zF.zD[j]? with
   |none=>rw[hg2] at hy;cases hy
   |some y0=>
    rw[hg2] at hy
    simp only[Option.map_some] at hy
    injection hy with hy
    have hn2:y.zX=y0.zX:=by subst hy;split<;>rfl
    rw[hn,hn2]
    exact h2 j y0 hj hg2
theorem editL_mem {l:List GClip} {c:GClip} (h:c ∈ editL l e):c ∈ l∨(c=e.zP∧e.zC≠2):=by
 unfold editL at h
 split at h
 ·next hk=>
  rcases List.mem_append.1 h with h|h
  ·exact .inl (List.mem_of_mem_take h)
  ·rcases List.mem_cons.1 h with h|h
   ·exact .inr ⟨h,by omega⟩
   ·exact .inl (List.mem_of_mem_drop h)
 ·split at h
  ·rcases List.mem_append.1 h with h|h
   ·exact .inl (List.mem_of_mem_take h)
   ·exact .inl (List.mem_of_mem_drop h)
  ·next h1 h2=>
   rcases List.mem_append.1 h with h|h
   ·exact .inl (List.mem_of_mem_take h)
   ·rcases List.mem_cons.1 h with h|h
    ·exact .inr ⟨h,h2⟩
    ·exact .inl (List.mem_of_mem_drop h)
/-- An edit of clips leaves a valid session just where the track stays valid. -/
theorem doE_clips (h:SessionOk s) (hf:FieldsOk e) (hr:RangeOk s e) (h4:e.zC≠4) (h5:e.zC≠5) {t:GTrack} (ht:s.zE[e.zV.toNat]?=some t):
  SessionOk (doE s e)↔TrackOk ⟨editL t.zL e⟩:=by
 unfold doE
 rw[if_neg h4,if_neg h5]
 have hget: ∀ i,(turnAt s.zE e.zV.toNat fun x=>(⟨editL x.zL e⟩:GTrack))[i]?=(s.zE[i]?).map (fun x=>if i=e.zV.toNat then (⟨editL x.zL e⟩:GTrack) else x):=fun i=>turnAt_get
 constructor
 ·intro g
  have:=g.tracks e.zV.toNat ⟨editL t.zL e⟩ (by
   show (turnAt s.zE e.zV.toNat fun x=>(⟨editL x.zL e⟩:GTrack))[e.zV.toNat]?=_
   rw[hget,ht];simp)
  exact this.1
 ·intro g
  have hs:e.zC≠2→e.zP.zO<(s.zG.length:Int):=by
   intro h2
   unfold RangeOk at hr
   rw[if_neg h5] at hr
   have hr:=hr.2
   rcases fields_kind hf with k|k|k|k|k
   ·rw[if_pos k] at hr;exact hr.2
   ·exact absurd k h2
   ·rw[if_neg (by omega),if_pos k] at hr;exact hr.2
   ·exact absurd k h4
   ·exact absurd k h5
  refine⟨h.length,h.sources,by show (turnAt s.zE _ _).length≤6;rw[length_turnAt];exact h.few,h.mixer,by show s.zK.length=(turnAt s.zE _ _).length;rw[length_turnAt];exact h.feed,h.feeds,h.effect,fun i x hx=>?_,h.effects⟩
  have hx:(turnAt s.zE e.zV.toNat fun x=>(⟨editL x.zL e⟩:GTrack))[i]?=some x:=hx
  rw[hget] at hx
  cases hg:s.zE[i]? with
  |none=>rw[hg] at hx;cases hx
  |some x0=>
   rw[hg] at hx
   simp only[Option.map_some] at hx
   injection hx with hx
   obtain⟨h1,h2⟩:=h.tracks i x0 hg
   by_cases hi:i=e.zV.toNat
   ·rw[if_pos hi] at hx
    rw[hi] at hg
    rw[ht] at hg
    injection hg with hg
    subst hg hx
    refine⟨g,fun j c hc=>?_⟩
    rcases editL_mem (List.mem_of_getElem? hc) with hm|⟨rfl,hk⟩
    ·exact Each.of_mem.1 h2 c hm
    ·exact hs hk
   ·rw[if_neg hi] at hx
    subst hx
    exact⟨h1,h2⟩
end
theorem fieldsB_new {e:GEdit} (h:e.zC=1∨e.zC=3):tf (FieldsOk e)=(decide (e.zY=0) && tf (ClipOk e.zP)):=by
 unfold FieldsOk;rw[if_pos h,←tf_and,tf_dec]
theorem fieldsB_rem {e:GEdit} (h:e.zC=2):tf (FieldsOk e)=(decide (e.zY=0) && decide (e.zP=noClip)):=by
 unfold FieldsOk;rw[if_neg (by omega),if_pos h,←tf_and,tf_dec,tf_dec]
theorem fieldsB_feed {e:GEdit} (h:e.zC=4):tf (FieldsOk e)=(decide (e.zZ=0) && decide (e.zP=noClip)):=by
 unfold FieldsOk;rw[if_neg (by omega),if_neg (by omega),if_pos h,←tf_and,tf_dec,tf_dec]
theorem fieldsB_send {e:GEdit} (h:e.zC=5):tf (FieldsOk e)=decide (e.zP=noClip):=by
 unfold FieldsOk;rw[if_neg (by omega),if_neg (by omega),if_neg (by omega),if_pos h,tf_dec]
theorem fieldsB_none {e:GEdit} (h: ¬ (e.zC=1∨e.zC=3)) (h2:e.zC≠2) (h4:e.zC≠4) (h5:e.zC≠5):tf (FieldsOk e)=false:=by
 unfold FieldsOk;rw[if_neg h,if_neg h2,if_neg h4,if_neg h5];exact yV (fun h=>h)
section
variable {s:GSession} {e:GEdit}
theorem rangeB_send (h:e.zC=5):tf (RangeOk s e)=(inB e.zV 0 ((s.zF.zD.length:Int) - 1) && (inB e.zZ 0 (((sendsAt s e.zV).length:Int) - 1) && decide (Smp e.zY))):=by
 unfold RangeOk;rw[if_pos h,←tf_and,←tf_and,tf_dec,tf_dec,tf_dec];simp
theorem rangeB_out (h:e.zC≠5) (ht:inB e.zV 0 ((s.zE.length:Int) - 1)=false):tf (RangeOk s e)=false:=by
 unfold RangeOk;rw[if_neg h];exact yV (fun k=>by rw[ht] at k;exact absurd k.1 (by simp))
theorem rangeB_ins (h:e.zC=1) (ht:inB e.zV 0 ((s.zE.length:Int) - 1)=true):tf (RangeOk s e)=(inB e.zZ 0 ((clipsAt s e.zV).length:Int) && decide (e.zP.zO<(s.zG.length:Int))):=by
 unfold RangeOk;rw[if_neg (by omega),if_pos h,←tf_and,←tf_and,tf_dec,tf_dec,tf_dec,ht];simp
theorem rangeB_rep (h:e.zC=3) (ht:inB e.zV 0 ((s.zE.length:Int) - 1)=true):tf (RangeOk s e)=(inB e.zZ 0 (((clipsAt s e.zV).length:Int) - 1) && decide (e.zP.zO<(s.zG.length:Int))):=by
 unfold RangeOk;rw[if_neg (by omega),if_neg (by omega),if_pos h,←tf_and,←tf_and,tf_dec,tf_dec,tf_dec,ht];simp
theorem rangeB_rem (h:e.zC=2) (ht:inB e.zV 0 ((s.zE.length:Int) - 1)=true):tf (RangeOk s e)=inB e.zZ 0 (((clipsAt s e.zV).length:Int) - 1):=by
 unfold RangeOk;rw[if_neg (by omega),if_neg (by omega),if_neg (by omega),if_pos h,←tf_and,tf_dec,tf_dec,ht];simp
theorem rangeB_feed (h5:e.zC≠5) (h1:e.zC≠1) (h2:e.zC≠2) (h3:e.zC≠3) (ht:inB e.zV 0 ((s.zE.length:Int) - 1)=true):tf (RangeOk s e)=inB e.zY 0 ((s.zF.zD.length:Int) - 1):=by
 unfold RangeOk;rw[if_neg h5,if_neg h1,if_neg h3,if_neg h2,←tf_and,tf_dec,tf_dec,ht];simp
end
end Go.Proofs.YteiflbhcehajkaaGreat
end
section
namespace Go.Proofs.YteiflbhcehajkaaGreat
open Go.RowKit
def clipAt (s:GSession) (e:GEdit):GClip:=(clipsAt s e.zV).getD e.zZ.toNat noClip
section
variable {s:GSession} {e:GEdit}
theorem applyF_ok (h:(applyF s e).2=0):SessionOk s∧FieldsOk e∧RangeOk s e∧ ¬ (e.zC=1∧12≤(clipsAt s e.zV).length)∧SessionOk (doE s e)∧(applyF s e).1=doE s e:=by
 unfold applyF at h ⊢
 by_cases h1:tf (SessionOk s∧FieldsOk e)=true
 ·rw[if_pos h1] at h ⊢
  by_cases h2:tf (RangeOk s e)=true
  ·rw[if_pos h2] at h ⊢
   by_cases h3:e.zC=1∧12≤(clipsAt s e.zV).length
   ·rw[if_pos h3] at h
    exact absurd h (by decide)
   ·rw[if_neg h3] at h ⊢
    by_cases h4:tf (SessionOk (doE s e))=true
    ·rw[if_pos h4]
     exact⟨(tf_true.1 h1).1,(tf_true.1 h1).2,tf_true.1 h2,h3,tf_true.1 h4,rfl⟩
    ·rw[if_neg h4] at h
     exact absurd h (by decide)
  ·rw[if_neg h2] at h
   exact absurd h (by decide)
 ·rw[if_neg h1] at h
  exact absurd h (by decide)
theorem applyF_of (h1:SessionOk s) (h2:FieldsOk e) (h3:RangeOk s e) (h4: ¬ (e.zC=1∧12≤(clipsAt s e.zV).length)) (h5:SessionOk (doE s e)):applyF s e=(doE s e,0):=by
 unfold applyF
 rw[if_pos (yW ⟨h1,h2⟩),if_pos (yW h3),if_neg h4,if_pos (yW h5)]
theorem range_track (h:RangeOk s e) (h5:e.zC≠5): ∃ k t,e.zV=((k:Nat):Int)∧s.zE[k]?=some t:=by
 unfold RangeOk at h
 rw[if_neg h5] at h
 have:=inB_true.1 h.1
 refine⟨e.zV.toNat,s.zE[e.zV.toNat]'(by omega),by omega,List.getElem?_eq_getElem _⟩
theorem doE_kind (s:GSession) (e:GEdit) (h4:e.zC≠4) (h5:e.zC≠5):doE s e= { s with zE:=turnAt s.zE e.zV.toNat fun x=>⟨editL x.zL e⟩ } :=by
 unfold doE
 rw[if_neg h4,if_neg h5]
end
end Go.Proofs.YteiflbhcehajkaaGreat
end
section
namespace Go.Proofs.YteiflbhcehajkaaGreat
open Go.RowKit
/-- The state of a node at the beginning. -/
def startL (x:GNode):List Int:=
 if x.zC=6 then List.replicate x.fA.toNat 0
 else if x.zC=17 then List.replicate x.fB.toNat 0
 else if x.zC=7∨x.zC=8∨x.zC=16 then [0]
 else if x.zC=12∨x.zC=14 then [x.fA]
 else []
def statefulB (p:GPatch):Bool:=p.zH.any fun x=>decide (0<(startL x).length)
def effectAt (s:GSession) (j:Int):GPatch:=(s.zJ[j.toNat]?).getD noPatch
/-- An effect with a state is in a strip or in one that it reaches. -/
inductive Ring (s:GSession):Int→Prop
 |own {j:Int} :statefulB (effectAt s j)=true→Ring s j
 |send {j:Int} {x:GSend} :x ∈ sendsAt s j→Ring s x.yB→Ring s j
theorem ring_iff {s:GSession} {j:Int} :Ring s j↔statefulB (effectAt s j)=true∨ ∃ x ∈ sendsAt s j,Ring s x.yB:=by
 constructor
 ·intro h
  cases h with
  |own h=>exact .inl h
  |send h1 h2=>exact .inr ⟨_,h1,h2⟩
 ·rintro(h|⟨x,h1,h2⟩)
  ·exact .own h
  ·exact .send h1 h2
/-- The strips that are concerned, the first i of them looked through. -/
structure Conc (s:GSession) (R:Prop) (st:Int→Prop) (C:List Bool) (i:Nat):Prop where
 reach: ∀ k:Nat,C[k]?=some true→Ring s (k:Int)→R
 start: ∀ j:Int,st j→C[j.toNat]?=some true
 done: ∀ k:Nat,k<i→C[k]?=some true→statefulB (effectAt s (k:Int))=false∧ ∀ x ∈ sendsAt s (k:Int),C[x.yB.toNat]?=some true
section
variable {s:GSession} {R:Prop} {st:Int→Prop} {C:List Bool} {i:Nat}
/-- One that is not concerned is passed. -/
theorem Conc.skip (h:Conc s R st C i) (hi:C[i]?=some false):Conc s R st C (i+1):=
 ⟨h.reach,h.start,fun k hk hc=>by
  by_cases e:k=i
  ·subst e;rw[hi] at hc;exact absurd hc (by simp)
  ·exact h.done k (by omega) hc⟩
/-- More of them are concerned: the targets of one that is. -/
theorem Conc.mark (h:Conc s R st C i) (hi:C[i]?=some true) {x:GSend} (hx:x ∈ sendsAt s (i:Int)) (hp:(i:Int)<x.yB) (hl:x.yB.toNat<C.length):Conc s R st (C.set x.yB.toNat true) i:=by
 have hs: ∀ k:Nat,C[k]?=some true→(C.set x.yB.toNat true)[k]?=some true:=fun k hk=>by
  rw[List.getElem?_set]
  split
  ·first
    |rfl
    |(split
      ·rfl
      ·next e1 e2=>exact absurd hl e2)
  ·exact hk
 refine⟨fun k hk hr=>?_,fun j hj=>hs _ (h.start j hj),fun k hk hc=>?_⟩
 ·rw[List.getElem?_set] at hk
  split at hk
  ·next e=>
   have e2:(k:Int)=x.yB:=by omega
   rw[e2] at hr
   exact h.reach i hi (.send hx hr)
  ·exact h.reach k hk hr
 ·rw[List.getElem?_set] at hc
  split at hc
  ·next e=>omega
  ·obtain⟨h1,h2⟩:=h.done k hk hc
   exact⟨h1,fun y hy=>hs _ (h2 y hy)⟩
theorem Conc.step (h:Conc s R st C i) (h1:statefulB (effectAt s (i:Int))=false) (h2: ∀ x ∈ sendsAt s (i:Int),C[x.yB.toNat]?=some true):Conc s R st C (i+1):=
 ⟨h.reach,h.start,fun k hk hc=>by
  by_cases e:k=i
  ·subst e;exact⟨h1,h2⟩
  ·exact h.done k (by omega) hc⟩
theorem Conc.found (h:Conc s R st C i) (hi:C[i]?=some true) (h1:statefulB (effectAt s (i:Int))=true):R:=h.reach i hi (.own h1)
theorem Conc.none (h:Conc s R st C i) (hl:C.length≤i) (hst: ∀ j,st j→0≤j) (hto: ∀ k:Nat,∀ x ∈ sendsAt s (k:Int),0≤x.yB): ∀ j,st j→ ¬ Ring s j:=by
 have key: ∀ j,Ring s j→0≤j→C[j.toNat]?=some true→False:=by
  intro j hr
  induction hr with
  | @own j hs=>
   intro hj hc
   have hk:=(List.getElem?_eq_some_iff.1 hc).1
   have:=(h.done j.toNat (by omega) hc).1
   rw[show ((j.toNat:Nat):Int)=j by omega,hs] at this
   exact absurd this (by simp)
  | @send j x hx _ ih=>
   intro hj hc
   have hk:=(List.getElem?_eq_some_iff.1 hc).1
   have hx2:x ∈ sendsAt s ((j.toNat:Nat):Int):=by rw[show ((j.toNat:Nat):Int)=j by omega];exact hx
   exact ih (hto _ x hx2) ((h.done j.toNat (by omega) hc).2 x hx2)
 exact fun j hj hr=>key j hr (hst j hj) (h.start j hj)
end
/-- The least beginning and the greatest end of clips. -/
def lowF (a:Int) (l:List GClip):Int:=l.foldl (fun a c=>min a c.zW) a
def highF (b:Int) (l:List GClip):Int:=l.foldl (fun b c=>max b (c.zW+c.zA)) b
theorem lowF_snoc (a:Int) (l:List GClip) (c:GClip):lowF a (l++ [c])=min (lowF a l) c.zW:=by simp[lowF]
theorem highF_snoc (b:Int) (l:List GClip) (c:GClip):highF b (l++ [c])=max (highF b l) (c.zW+c.zA):=by simp[highF]
theorem lowF_le: ∀ (l:List GClip) (a:Int),lowF a l≤a
 | [],a=>Int.le_refl _
 |c :: r,a=>Int.le_trans (lowF_le r (min a c.zW)) (Int.min_le_left _ _)
theorem highF_ge: ∀ (l:List GClip) (b:Int),b≤highF b l
 | [],b=>Int.le_refl _
 |c :: r,b=>Int.le_trans (Int.le_max_left _ _) (highF_ge r (max b (c.zW+c.zA)))
def spanF (l:List GClip):Int × Int:=match l with
 | []=>(0,0)
 |c :: r=>(lowF c.zW (c :: r),highF 0 (c :: r))
theorem spanF_lt {c:GClip} {r:List GClip} (h:1≤c.zA):(spanF (c :: r)).1<(spanF (c :: r)).2:=by
 show lowF c.zW (c :: r)<highF 0 (c :: r)
 have h1:=lowF_le (c :: r) c.zW
 have h2:max 0 (c.zW+c.zA)≤highF 0 (c :: r):=highF_ge r (max 0 (c.zW+c.zA))
 omega
theorem spanF_swap (a b:GClip):spanF [a,b]=spanF [b,a]:=by
 unfold spanF lowF highF
 simp only[List.foldl_cons,List.foldl_nil]
 congr 1<;>omega
/-- The clips that an edit removes and adds, or moves to another strip. -/
def changedL (s:GSession) (e:GEdit):List GClip:=
 if e.zC=1 then [e.zP] else if e.zC=2 then [clipAt s e] else if e.zC=3 then [clipAt s e,e.zP]
 else if e.zY=s.zK.getD e.zV.toNat 0 then [] else clipsAt s e.zV
def Lasting (s:GSession) (e:GEdit):Prop:=Ring s (s.zK.getD e.zV.toNat 0)∨(e.zC=4∧Ring s e.zY)
noncomputable def rangeOf (s:GSession) (e:GEdit):Int × Int:=
 if e.zC=5 then (0,s.zA)
 else if changedL s e= [] then (0,0)
 else if (spanF (changedL s e)).1<min (if tf (Lasting s e)=true then s.zA else (spanF (changedL s e)).2) s.zA then
  ((spanF (changedL s e)).1,min (if tf (Lasting s e)=true then s.zA else (spanF (changedL s e)).2) s.zA)
 else (0,0)
end Go.Proofs.YteiflbhcehajkaaGreat
end
section
namespace Go.Proofs.YteiflbhcehajkaaGreat
open Go.RowKit
/-- Strictly rising numbers. -/
def Up (l:List Int):Prop:=l.Pairwise (· < ·)
theorem Up.ext: ∀ {a b:List Int},Up a→Up b→(∀ x,x ∈ a↔x ∈ b)→a=b
 | [],[],_,_,_=>rfl
 | [],y :: b,_,_,h=>absurd ((h y).2 (by simp)) (by simp)
 |x :: a,[],_,_,h=>absurd ((h x).1 (by simp)) (by simp)
 |x :: a,y :: b,ha,hb,h=>by
  have ha':=List.pairwise_cons.1 ha
  have hb':=List.pairwise_cons.1 hb
  have hxy:x=y:=by
   have h1:=(h x).1 (by simp)
   have h2:=(h y).2 (by simp)
   rcases List.mem_cons.1 h1 with h1|h1
   ·exact h1
   ·rcases List.mem_cons.1 h2 with h2|h2
    ·exact h2.symm
    ·have:=ha'.1 y h2;have:=hb'.1 x h1;omega
  subst hxy
  rw[Up.ext ha'.2 hb'.2 (fun z=>?_)]
  have hz:=h z
  simp only[List.mem_cons] at hz
  constructor
  ·intro hm
   rcases hz.1 (.inr hm) with e|e
   ·have:=ha'.1 z hm;omega
   ·exact e
  ·intro hm
   rcases hz.2 (.inr hm) with e|e
   ·have:=hb'.1 z hm;omega
   ·exact e
/-- A number put to its place, once. -/
def putF:List Int→Int→List Int
 | [],n=> [n]
 |x :: r,n=>if n<x then n :: x :: r else if n=x then x :: r else x :: putF r n
theorem putF_mem: ∀ (l:List Int) (n y:Int),y ∈ putF l n↔y=n∨y ∈ l
 | [],n,y=>by simp[putF]
 |x :: r,n,y=>by
  simp only[putF]
  split
  ·simp
  ·split
   ·next e=>subst e;simp
   ·simp only[List.mem_cons,putF_mem r n y]
    constructor
    ·rintro(h|h|h)
     ·exact .inr (.inl h)
     ·exact .inl h
     ·exact .inr (.inr h)
    ·rintro(h|h|h)
     ·exact .inr (.inl h)
     ·exact .inl h
     ·exact .inr (.inr h)
theorem putF_up: ∀ {l:List Int} {n:Int},Up l→Up (putF l n)
 | [],n,_=>by simp[putF,Up]
 |x :: r,n,h=>by
  have h':=List.pairwise_cons.1 h
  simp only[putF]
  split
  ·next hn=>
   refine List.pairwise_cons.2 ⟨fun y hy=>?_,h⟩
   rcases List.mem_cons.1 hy with e|e
   ·omega
   ·have:=h'.1 y e;omega
  ·split
   ·exact h
   ·refine List.pairwise_cons.2 ⟨fun y hy=>?_,putF_up h'.2⟩
    rcases(putF_mem r n y).1 hy with e|e
    ·omega
    ·exact h'.1 y e
theorem putF_len: ∀ (l:List Int) (n:Int),(putF l n).length≤l.length+1
 | [],n=>by simp[putF]
 |x :: r,n=>by
  simp only[putF]
  split
  ·simp
  ·split
   ·simp
   ·simp only[List.length_cons];have:=putF_len r n;omega
/-- What l00Put has laid after the first k numbers: those below n, n, and the others. -/
def putU (l:List Int) (n:Int) (k:Nat):List Int:=if (l.take k).any (fun x=>decide (n≤x))=true then putF (l.take k) n else l.take k
theorem putF_low: ∀ {l:List Int} {n:Int},(∀ x ∈ l,x<n)→putF l n=l++ [n]
 | [],n,_=>rfl
 |x :: r,n,h=>by
  have hx:=h x (by simp)
  simp only[putF]
  rw[if_neg (by omega),if_neg (by omega),putF_low (fun y hy=>h y (by simp[hy]))]
  rfl
theorem putF_app: ∀ {l:List Int} {n:Int} (r:List Int),(∃ x ∈ l,n≤x)→putF (l++r) n=putF l n++r
 | [],n,r,h=>by obtain⟨x,hx,_⟩:=h;simp at hx
 |x :: s,n,r,h=>by
  simp only[putF,List.cons_append]
  split
  ·rfl
  ·split
   ·rfl
   ·rw[putF_app r ?_]
    ·rfl
    ·obtain⟨y,hy,hn⟩:=h
     rcases List.mem_cons.1 hy with e|e
     ·omega
     ·exact⟨y,e,hn⟩
theorem putF_cut {l:List Int} {n x:Int} (h: ∀ y ∈ l,y<n) (hx:n≤x):putF (l++ [x]) n=l++(if n<x then [n,x] else [x]):=by
 induction l with
 |nil=>
  simp only[putF,List.nil_append]
  split
  ·rfl
  ·rw[if_pos (by omega)]
 |cons y r ih=>
  have hy:=h y (by simp)
  simp only[putF,List.cons_append]
  rw[if_neg (by omega),if_neg (by omega),ih (fun z hz=>h z (by simp[hz]))]
/-- Puts, one after the other, of the blocks of samples from a on, m samples. -/
def putsF (l:List Int) (a:Int):Nat→List Int
 |0=>l
 |m+1=>putF (putsF l a m) ((a+(m:Int)) / 16)
theorem putsF_mem (l:List Int) (a:Int): ∀ (m:Nat) (y:Int),y ∈ putsF l a m↔y ∈ l∨ ∃ i:Nat,i<m∧y=(a+(i:Int)) / 16
 |0,y=>by simp[putsF]
 |m+1,y=>by
  simp only[putsF,putF_mem,putsF_mem l a m]
  constructor
  ·rintro(h|h|⟨i,hi,h⟩)
   ·exact .inr ⟨m,by omega,h⟩
   ·exact .inl h
   ·exact .inr ⟨i,by omega,h⟩
  ·rintro(h|⟨i,hi,h⟩)
   ·exact .inr (.inl h)
   ·by_cases e:i=m
    ·subst e;exact .inl h
    ·exact .inr (.inr ⟨i,by omega,h⟩)
theorem putsF_up {l:List Int} {a:Int} (h:Up l): ∀ m,Up (putsF l a m)
 |0=>h
 |m+1=>putF_up (putsF_up h m)
theorem putsF_len (l:List Int) (a:Int): ∀ m,(putsF l a m).length≤l.length+m
 |0=>Nat.le_refl _
 |m+1=>by have:=putsF_len l a m;have:=putF_len (putsF l a m) ((a+(m:Int)) / 16);simp only[putsF];omega
/-- The blocks that are dirty behind an edit, among the first k. -/
def markB (d:List Int) (a b:Int) (n:Nat):Bool:=decide ((n:Int) ∈ d) || (decide ((n:Int) * 16<b) && decide (a<((n:Int)+1) * 16))
def marksF (d:List Int) (a b:Int):Nat→List Int
 |0=> []
 |k+1=>if markB d a b k=true then marksF d a b k++ [(k:Int)] else marksF d a b k
theorem marksF_mem (d:List Int) (a b:Int): ∀ (k:Nat) (y:Int),y ∈ marksF d a b k↔ ∃ i:Nat,i<k∧y=(i:Int)∧markB d a b i=true
 |0,y=>by simp[marksF]
 |k+1,y=>by
  have ih:=marksF_mem d a b k y
  simp only[marksF]
  split
  ·next hm=>
   rw[List.mem_append,ih]
   constructor
   ·rintro(⟨i,h1,h2,h3⟩|h)
    ·exact⟨i,by omega,h2,h3⟩
    ·simp at h;exact⟨k,by omega,h,hm⟩
   ·rintro⟨i,h1,h2,h3⟩
    by_cases e:i=k
    ·subst e;exact .inr (by simp[h2])
    ·exact .inl ⟨i,by omega,h2,h3⟩
  ·next hm=>
   rw[ih]
   constructor
   ·rintro⟨i,h1,h2,h3⟩;exact⟨i,by omega,h2,h3⟩
   ·rintro⟨i,h1,h2,h3⟩
    by_cases e:i=k
    ·subst e;exact absurd h3 hm
    ·exact⟨i,by omega,h2,h3⟩
theorem marksF_up (d:List Int) (a b:Int): ∀ k,Up (marksF d a b k)
 |0=>List.Pairwise.nil
 |k+1=>by
  simp only[marksF]
  split
  ·refine List.pairwise_append.2 ⟨marksF_up d a b k,by simp,fun x hx y hy=>?_⟩
   obtain⟨i,h1,h2,_⟩:=(marksF_mem d a b k x).1 hx
   simp at hy
   omega
  ·exact marksF_up d a b k
theorem marksF_len (d:List Int) (a b:Int): ∀ k,(marksF d a b k).length≤k
 |0=>Nat.le_refl _
 |k+1=>by
  have:=marksF_len d a b k
  simp only[marksF]
  split
  ·simp;omega
  ·omega
theorem up_of_dirty {c:GCache} (h:CacheOk c):Up c.zU:=by
 have key: ∀ (l:List Int),(∀ i b,l[i]?=some b→ ∀ p,0<i→l[i - 1]?=some p→p<b)→Up l:=by
  intro l
  induction l with
  |nil=>intro _;exact List.Pairwise.nil
  |cons x r ih=>
   intro hr
   have ht:Up r:=ih (fun i b hb p hi hp=>hr (i+1) b (by simpa using hb) p (by omega) (by
    have:i+1 - 1=(i - 1)+1:=by omega
    rw[this];simpa using hp))
   refine List.pairwise_cons.2 ⟨fun y hy=>?_,ht⟩
   cases r with
   |nil=>simp at hy
   |cons z s=>
    have h1:=hr 1 z (by simp) x (by omega) (by simp)
    rcases List.mem_cons.1 hy with e|e
    ·omega
    ·have:=(List.pairwise_cons.1 ht).1 y e;omega
 exact key _ (fun i b hb p hi hp=>(h.dirty i b hb).2 p hi hp)
/-- Both ways to mark the blocks of a range agree. -/
theorem puts_marks {d:List Int} {a b n:Int} (hd:Up d) (hb: ∀ y ∈ d,0≤y∧y≤blocksF n - 1) (h0:0≤a) (hab:a≤b) (hbn:b≤n) (hz:a=b→b=0):
  putsF d a (b - a).toNat=marksF d a b (blocksF n).toNat:=by
 refine Up.ext (putsF_up hd _) (marksF_up _ _ _ _) (fun y=>?_)
 rw[putsF_mem,marksF_mem]
 unfold blocksF at *
 constructor
 ·rintro(h|⟨i,hi,h⟩)
  ·have:=hb y h
   refine⟨y.toNat,by omega,by omega,?_⟩
   unfold markB
   rw[show ((y.toNat:Nat):Int)=y by omega]
   simp[h]
  ·refine⟨y.toNat,by omega,by omega,?_⟩
   unfold markB
   rw[show ((y.toNat:Nat):Int)=y by omega]
   have h1:y * 16<b:=by omega
   have h2:a<(y+1) * 16:=by omega
   simp[h1,h2]
 ·rintro⟨i,hi,rfl,hm⟩
  unfold markB at hm
  rw[Bool.or_eq_true,Bool.and_eq_true,decide_eq_true_eq,decide_eq_true_eq,decide_eq_true_eq] at hm
  rcases hm with h|⟨h1,h2⟩
  ·exact .inl h
  ·have hlt:a<b:=by
    by_cases e:a=b
    ·have:=hz e;omega
    ·omega
   by_cases c:a≤(i:Int) * 16
   ·exact .inr ⟨((i:Int) * 16 - a).toNat,by omega,by omega⟩
   ·exact .inr ⟨0,by omega,by omega⟩
def noCache:GCache:=⟨noSession,[],[]⟩
noncomputable def cacheE (c:GCache) (e:GEdit):GCache:=⟨(applyF c.zB e).1,c.yA,marksF c.zU (rangeOf c.zB e).1 (rangeOf c.zB e).2 (blocksF c.zB.zA).toNat⟩
noncomputable def editC (c:GCache) (e:GEdit):GCache × Int:=
 if tf (CacheOk c)=true then (if (applyF c.zB e).2=0 then (cacheE c e,0) else (noCache,(applyF c.zB e).2)) else (noCache,1)
theorem changed_at {s:GSession} {e:GEdit} (hv:SessionOk s) (hf:FieldsOk e) (hr:RangeOk s e) (h5:e.zC≠5): ∀ c ∈ changedL s e,0≤c.zW:=by
 intro c hc
 obtain⟨k,t,hk,ht⟩:=range_track hr h5
 have tk:=(hv.tracks k t ht).1
 have hin: ∀ x ∈ t.zL,0≤x.zW:=fun x hx=>by
  obtain⟨i,hi⟩:=List.mem_iff_getElem?.1 hx
  have:=inB_true.1 (tk.clips i x hi).1.at_
  omega
 have hca:clipAt s e ∈ t.zL∨0≤(clipAt s e).zW:=by
  unfold clipAt
  rw[hk,clipsAt_of ht,List.getD_eq_getElem?_getD]
  cases hg:t.zL[e.zZ.toNat]? with
  |none=>exact .inr (by simp[noClip])
  |some x=>exact .inl (by simpa using List.mem_of_getElem? hg)
 have hcl:0≤(clipAt s e).zW:=hca.elim (fun h=>hin _ h) id
 have hnew:e.zC=1∨e.zC=3→0≤e.zP.zW:=fun h=>by
  unfold FieldsOk at hf
  rw[if_pos h] at hf
  have:=inB_true.1 hf.2.at_
  omega
 unfold changedL at hc
 split at hc
 ·next h=>simp at hc;subst hc;exact hnew (.inl h)
 ·split at hc
  ·simp at hc;subst hc;exact hcl
  ·split at hc
   ·next h=>
    simp at hc
    rcases hc with rfl|rfl
    ·exact hcl
    ·exact hnew (.inr h)
   ·split at hc
    ·simp at hc
    ·rw[hk,clipsAt_of ht] at hc
     exact hin c hc
theorem lowF_ge0: ∀ {l:List GClip} {a:Int},0≤a→(∀ c ∈ l,0≤c.zW)→0≤lowF a l
 | [],a,h,_=>h
 |c :: r,a,h,hl=>by
  show 0≤lowF (min a c.zW) r
  have:=hl c (by simp)
  exact lowF_ge0 (by omega) (fun x hx=>hl x (by simp[hx]))
theorem spanF_ge0 {l:List GClip} (hl: ∀ c ∈ l,0≤c.zW):0≤(spanF l).1:=by
 cases l with
 |nil=>exact Int.le_refl _
 |cons c r=>exact lowF_ge0 (hl c (by simp)) hl
/-- The range lies within the session; it is empty only at 0. -/
theorem rangeOf_in {s:GSession} {e:GEdit} (hv:SessionOk s) (hf:FieldsOk e) (hr:RangeOk s e):0≤(rangeOf s e).1∧(rangeOf s e).1≤(rangeOf s e).2∧(rangeOf s e).2≤s.zA∧((rangeOf s e).1=(rangeOf s e).2→(rangeOf s e).2=0):=by
 have hl:=inB_true.1 hv.length
 unfold rangeOf
 by_cases h5:e.zC=5
 ·rw[if_pos h5];dsimp only;omega
 ·rw[if_neg h5]
  have hc:=spanF_ge0 (changed_at hv hf hr h5)
  split
  ·dsimp only;omega
  ·generalize (if tf (Lasting s e)=true then s.zA else (spanF (changedL s e)).2)=m
   by_cases h:(spanF (changedL s e)).1<min m s.zA
   ·rw[if_pos h];dsimp only;omega
   ·rw[if_neg h];dsimp only;omega
theorem dirty_in {c:GCache} (h:CacheOk c): ∀ y ∈ c.zU,0≤y∧y≤blocksF c.zB.zA - 1:=fun y hy=>by
 obtain⟨i,hi⟩:=List.mem_iff_getElem?.1 hy
 exact(h.dirty i y hi).1
theorem cacheE_puts {c:GCache} {e:GEdit} (h:CacheOk c) (hf:FieldsOk e) (hr:RangeOk c.zB e):
  putsF c.zU (rangeOf c.zB e).1 ((rangeOf c.zB e).2 - (rangeOf c.zB e).1).toNat=marksF c.zU (rangeOf c.zB e).1 (rangeOf c.zB e).2 (blocksF c.zB.zA).toNat:=by
 obtain⟨h1,h2,h3,h4⟩:=rangeOf_in h.session hf hr
 exact puts_marks (up_of_dirty h) (dirty_in h) h1 h2 h3 h4
end Go.Proofs.YteiflbhcehajkaaGreat
end
section
namespace Go.Proofs.YteiflbhcehajkaaGreat
open Go.RowKit
theorem T.yK {w:World} {E:TypeId} {sz:Nat} {α:Type} {tr:α→T} {xs:List α} {v:Value} (h:T.rd w (.sl E sz (xs.map tr)) [v]):
  ∃ A cap,v= .slice A xs.length cap∧xs.length≤cap∧cap≤9223372036854775807∧
   (∀ k x,xs[k]?=some x→ ∃ b off cs,A=some ⟨b,off,none⟩∧b<w.heap.size∧T.rd w (tr x) cs∧ ∀ j u,cs[j]?=some u→w.cell? ⟨b,off+(k * sz+j),none⟩=some u):=by
 obtain⟨A,cap,hv,h1,h2,h3⟩:=T.yL h
 rw[List.length_map] at hv h1
 exact⟨A,cap,hv,h1,h2,fun k x hk=>h3 k (tr x) (by rw[List.getElem?_map,hk];rfl)⟩
theorem T.rds_below' {w w':World} {x:List T} {cs:List Value} (h:T.rds w x cs) (hb:Below w.heap.size w w'):T.rds w' x cs:=T.rds_keep hb.size hb.block x cs h
/-- The struct's cells lie from place o of block b on. -/
def T.at (w:World) (fs:List T) (b o:Nat):Prop:=b<w.heap.size∧ ∃ cs,T.rds w fs cs∧ ∀ j u,cs[j]?=some u→w.cell? ⟨b,o+j,none⟩=some u
theorem T.at_below {w w':World} {fs:List T} {b o:Nat} (h:T.at w fs b o) (hb:Below w.heap.size w w'):T.at w' fs b o:=by
 obtain⟨h1,cs,h2,h3⟩:=h
 exact⟨Nat.lt_of_lt_of_le h1 hb.size,cs,T.rds_below' h2 hb,fun j u hj=>(hb.cell h1).trans (h3 j u hj)⟩
/-- An element of a slice, as a struct behind a pointer. -/
theorem T.at_elem {w:World} {fs:List T} {b off k sz o:Nat} {cs:List Value} (hb:b<w.heap.size) (h:T.rds w fs cs) (hc: ∀ j u,cs[j]?=some u→w.cell? ⟨b,off+(k * sz+j),none⟩=some u) (ho:o=off+k * sz):T.at w fs b o:=
 ⟨hb,cs,h,fun j u hj=>by rw[ho,Nat.add_assoc];exact hc j u hj⟩
/-- A block known whole, as a struct behind a pointer. -/
theorem T.at_bk {w:World} {fs:List T} {b:Nat} {t:TypeId} {cs:List Value} (hk:Bk w b t cs.toArray) (h:T.rds w fs cs):T.at w fs b 0:=
 ⟨hk.lt,cs,h,fun j u hj=>by rw[Nat.zero_add,hk.cell j];simpa using hj⟩
theorem yO {a b:Int} (h:a≠b):(a == b)=false:=beq_false_of_ne h
theorem yP {a b:Int} (h:a=b):(a == b)=true:=by simp[h]
theorem bneI_t {a b:Int} (h:a≠b):(a != b)=true:=by simp[h]
theorem bneI_f {a b:Int} (h:a=b):(a != b)=false:=by simp[h]
/-- Any world in which what lies in W still lies as it did. -/
noncomputable def bel (W u:World):World:= @ite _ (Below W.heap.size W u) (Classical.propDecidable _) u W
theorem yE (W u:World):Below W.heap.size W (bel W u):=by
 unfold bel
 split
 ·assumption
 ·exact Below.refl _ _
theorem bel_of {W u:World} (h:Below W.heap.size W u):u=bel W u:=by
 unfold bel
 rw[if_pos h]
theorem yD {W:World} {b o:Nat} {v:Value} (h:W.cell? ⟨b,o,none⟩=some v): ∀ u,(bel W u).cell? ⟨b,o,none⟩=some v:=fun u=>
 ((yE W u).cell (World.block_lt_of_cell? W _ h)).trans h
theorem xA {W:World} {g:Nat} {t:TypeId} {cs:Array Value} (h:Bk W g t cs): ∀ u i,(bel W u).cell? ⟨g,i,none⟩=cs[i]?:=fun u i=>
 (h.below (yE W u) h.lt).cell i
/-- A region that draws its order, whose operations and calls leave what was there as it was: one walk in the order of the text. -/
theorem yZ {P:Program} {id:Nat} {Q:Exit→Act→World→Prop} {a:Act} {w:World} {l:List Oper} (hm:P.follows .mixedOrders=true) (hB:Region.lexB .any l.toArray=true)
  (h:wpQuiet P l.toArray (fun w'=> ∃ u,w'=bel w u) (fun a'=> ∀ w',(∃ u,w'=bel w u)→Q .normal a' w') l a):(Code.region id l.toArray true).wp P Q a w:=
 wp_region_quiet (C:=fun w'=> ∃ u,w'=bel w u) hm hB ⟨_,bel_of ⟨rfl,rfl,rfl,Nat.le_refl _,fun _ _=>rfl⟩⟩ (by simpa using h)
theorem Calls.yI {P:Program} {f:FuncId} {args:Array Value} {w u:World} {v:Value}
  (h:Calls P f args (bel w u) fun e w'=>e= .returned v∧Below (bel w u).heap.size (bel w u) w'):Calls P f args (bel w u) fun e w''=>e= .returned v∧ ∃ m,w''=bel w m:=
 h.mono fun _ w' ⟨he,hb⟩=>⟨he,w',bel_of (yG (yE w u) (yE w u).size hb)⟩
theorem Calls.yH {P:Program} {f:FuncId} {args:Array Value} {w u:World} {v:Value}
  (h:Calls P f args (bel w u) fun e w'=>e= .returned v∧bel w u=w'):Calls P f args (bel w u) fun e w''=>e= .returned v∧ ∃ m,w''=bel w m:=
 h.mono fun _ w' ⟨he,hb⟩=>⟨he,u,hb.symm⟩
end Go.Proofs.YteiflbhcehajkaaGreat
end
