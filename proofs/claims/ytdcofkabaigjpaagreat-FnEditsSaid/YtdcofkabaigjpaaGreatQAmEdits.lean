/- The mix of a session, in plain words. Edits, in plain words. Edits taken back, in plain words. The range of an edit, in plain words. -/
import Derived.Test.YtdcofkabaigjpaaGreatQAjEdits
set_option linter.unusedVariables false
set_option linter.unusedSimpArgs false

namespace Go.Proofs.YtdcofkabaigjpaaGreat
section
open Go.RowKit
def xMz (a:List Int) (by_ n:Nat):List Int:=cutL (List.replicate by_ 0++a) 0 n
def addS (a b:List Int) (g:Int):List Int:=(List.range (max a.length b.length)).map fun(i:Nat)=>wrp (wM a (i:Int)+g * wM b (i:Int))
theorem length_addS (a b:List Int) (g:Int):(addS a b g).length=max a.length b.length:=by simp[addS]
theorem smp_addS {a b:List Int} {g:Int} : ∀ x ∈ addS a b g,Smp x:=by
 intro x hx;unfold addS at hx;obtain⟨i,_,rfl⟩:=List.mem_map.1 hx;exact zRz _
theorem wXz {a:List Int} (h: ∀ x ∈ a,Smp x) (i:Int):Smp (wM a i):=by
 unfold wM
 split
 ·next c=>
  rw[List.getD_eq_getElem?_getD]
  cases e:a[i.toNat]? with
  |none=>exact⟨by decide,by decide⟩
  |some x=>exact h x (List.mem_of_getElem? e)
 ·exact⟨by decide,by decide⟩
theorem xNz (a:List Int) (b n:Nat):(xMz a b n).length=n:=uZz _ _ _
theorem smp_cutL {a:List Int} {f:Int} {n:Nat} (h: ∀ x ∈ a,Smp x): ∀ x ∈ cutL a f n,Smp x:=by
 intro x hx;unfold cutL at hx;obtain⟨i,_,rfl⟩:=List.mem_map.1 hx;exact wXz h _
theorem smp_lateF {a:List Int} {b n:Nat} (h: ∀ x ∈ a,Smp x): ∀ x ∈ xMz a b n,Smp x:=
 smp_cutL (fun x hx=>by
  rcases List.mem_append.1 hx with hx|hx
  ·rw[(List.mem_replicate.1 hx).2];exact⟨by decide,by decide⟩
  ·exact h x hx)
section
variable (c:xU) (src:List Int)
def yWz (out:List Int):Nat→List Int
 |0=>out
 |k+1=>(yWz out k).set (c.yE.toNat+k) (wrp ((yWz out k).getD (c.yE.toNat+k) 0+c.yB * wM src (c.zO+(k:Int))))
def clipN (n:Nat):Nat:=min c.zB.toNat (n - c.yE.toNat)
end
theorem wCz {c:xU} {src out:List Int} : ∀ k,(yWz c src out k).length=out.length
 |0=>rfl
 |k+1=>by simp[yWz,wCz k]
theorem yKy {c:xU} {src out:List Int} (h: ∀ x ∈ out,Smp x): ∀ k,∀ x ∈ yWz c src out k,Smp x
 |0=>h
 |k+1=>fun x hx=>by
  rcases List.mem_or_eq_of_mem_set hx with hx|rfl
  ·exact yKy h k x hx
  ·exact zRz _
def uJ (sources:List (List Int)) (l:List xU) (n:Nat):Nat→List Int
 |0=>List.replicate n 0
 |k+1=>match l[k]? with
  |some c=>yWz c (sources.getD c.zV.toNat []) (uJ sources l n k) (clipN c n)
  |none=>uJ sources l n k
def yEz (sources:List (List Int)) (t:xS) (n:Nat):List Int:=uJ sources t.zS n t.zS.length
theorem yOz {ss:List (List Int)} {l:List xU} {n:Nat} : ∀ k,(uJ ss l n k).length=n
 |0=>by simp[uJ]
 |k+1=>by
  simp only[uJ]
  split
  ·rw[wCz,yOz k]
  ·exact yOz k
theorem smp_zeros {n:Nat} : ∀ x ∈ List.replicate n (0:Int),Smp x:=fun x hx=>by rw[(List.mem_replicate.1 hx).2];exact⟨by decide,by decide⟩
theorem vGz {ss:List (List Int)} {l:List xU} {n:Nat} : ∀ k,∀ x ∈ uJ ss l n k,Smp x
 |0=>smp_zeros
 |k+1=>by
  simp only[uJ]
  split
  ·exact yKy (vGz k) _
  ·exact vGz k
def xSz (i:Nat) (lat:Int) (out:List Int) (l:List xV):Nat→List Int
 |0=>out
 |k+1=>match l[k]? with
  |some s=>(xSz i lat out l k).set s.yI.toNat (max ((xSz i lat out l k).getD s.yI.toNat 0) ((xSz i lat out l k).getD i 0+lat))
  |none=>xSz i lat out l k
def uX (l:List xP):Nat→List Int
 |0=>List.replicate l.length 0
 |k+1=>match l[k]? with
  |some x=>xSz k x.zZ (uX l k) x.zT x.zT.length
  |none=>uX l k
def wK (m:vF):List Int:=uX m.zC m.zC.length
theorem wMz {i:Nat} {lat:Int} {out:List Int} {l:List xV} : ∀ k,(xSz i lat out l k).length=out.length
 |0=>rfl
 |k+1=>by
  simp only[xSz]
  split
  ·rw[List.length_set,wMz k]
  ·exact wMz k
theorem xOz {l:List xP} : ∀ k,(uX l k).length=l.length
 |0=>by simp[uX]
 |k+1=>by
  simp only[uX]
  split
  ·rw[wMz,xOz k]
  ·exact xOz k
theorem zPz (m:vF):(wK m).length=m.zC.length:=xOz _
def Upper (l:List Int) (B:Int):Prop:= ∀ i,0≤l.getD i 0∧l.getD i 0≤B
theorem Upper.of_zeros {n:Nat} {B:Int} (h:0≤B):Upper (List.replicate n 0) B:=fun i=>by
 rw[List.getD_eq_getElem?_getD,List.getElem?_replicate]
 split<;>simp<;>omega
theorem Upper.mono {l:List Int} {B C:Int} (h:Upper l B) (hc:B≤C):Upper l C:=fun i=>⟨(h i).1,Int.le_trans (h i).2 hc⟩
theorem yLy {i:Nat} {lat:Int} {out:List Int} {l:List xV} {B:Int} (h: ∀ j,0≤out.getD j 0) (hi:out.getD i 0+lat≤B) (hl:0≤lat) (hb:Upper out B) (hto: ∀ s ∈ l,s.yI.toNat≠i):
  ∀ k,Upper (xSz i lat out l k) B∧(xSz i lat out l k).getD i 0=out.getD i 0
 |0=>⟨hb,rfl⟩
 |k+1=>by
  obtain⟨h1,h2⟩:=yLy h hi hl hb hto k;simp only[xSz]
  split
  ·next s hs=>
   have hn:=hto s (List.mem_of_getElem? hs);refine⟨fun j=>?_,by rw[wJz hn];exact h2⟩;by_cases e:s.yI.toNat=j
   ·subst e
    by_cases hl:s.yI.toNat<(xSz i lat out l k).length
    ·rw[zVz hl,h2]
     have:=h1 s.yI.toNat;have:=h i
     omega
    ·rw[List.set_eq_of_length_le zM]
     exact h1 _
   ·rw[wJz e];exact h1 j
  ·exact⟨h1,h2⟩
theorem zFy {l:List xP} (hl: ∀ x ∈ l,0≤x.zZ∧x.zZ≤32) (hto: ∀ (i:Nat) (x:xP),l[i]?=some x→ ∀ s ∈ x.zT,s.yI.toNat≠i): ∀ k,Upper (uX l k) (32 * (k:Int))
 |0=>Upper.of_zeros zM
 |k+1=>by
  have ih:=zFy hl hto k;simp only[uX]
  split
  ·next x hx=>
   have h1:=hl x (List.mem_of_getElem? hx);refine(yLy (B:=32 * ((k+1:Nat):Int)) (fun j=>(ih j).1) ?_ h1.1 (ih.mono zM) (hto k x hx) _).1;have:=(ih k).2
   omega
  ·exact ih.mono zM
theorem xBz {m:vF} (h:zSz m) {i:Nat} {x:xP} (hx:m.zC[i]?=some x): ∀ (k:Nat) (s:xV),x.zT[k]?=some s→(i:Int)<s.yI∧s.yI<(m.zC.length:Int)∧(0<k→ ∀ p,x.zT[k - 1]?=some p→p.yI<s.yI):=by
 have hs:=(h.each i x hx).1.sends.each;intro k
 induction k with
 |zero=>
  intro s h0;have:=wY.1 (hs 0 s h0).1;unfold befS at this;rw[if_pos rfl] at this;exact⟨by omega,by omega,fun h=>absurd h zM⟩
 |succ k ih=>
  intro s h1;have:=wY.1 (hs (k+1) s h1).1;unfold befS at this;rw[if_neg zM,Nat.add_sub_cancel] at this;have hk:k<x.zT.length:=by have:=(List.getElem?_eq_some_iff.1 h1).1;omega
  have hg:=gE hk;have h2:=ih _ hg;rw[List.getD_eq_getElem?_getD,hg] at this;simp only[Option.getD_some] at this;refine⟨by omega,by omega,fun _ p hp=>?_⟩;rw[Nat.add_sub_cancel,hg] at hp;injection hp with hp;rw[←hp]
  omega
theorem zYz {m:vF} (h:zSz m):Upper (wK m) 256:=by
 refine(zFy (fun x hx=>?_) (fun i x hx s hs e=>?_) _).mono (by have:=h.few;omega)
 ·obtain⟨i,hi⟩:=List.mem_iff_getElem?.1 hx
  exact wY.1 (h.each i x hi).1.latency
 ·obtain⟨k,hk⟩:=List.mem_iff_getElem?.1 hs
  have:=xBz h hx k s hk
  omega
def xPz (times:List Int) (i:Nat) (x:xP) (s:xV):Int:=times.getD s.yI.toNat 0 - times.getD i 0 - x.zZ
def zKz (m:vF):List (List Int):=m.zC.mapIdx fun i x=>x.zT.map (xPz (wK m) i x)
def zHz (m:vF):Int:=(wK m).getD (m.zC.length - 1) 0+(m.zC.getD (m.zC.length - 1) ⟨ByteArray.empty,0,[]⟩).zZ
def zIz (s:xO) (n:Nat):Nat→List (List Int)
 |0=>List.replicate s.zH.zC.length (List.replicate n 0)
 |k+1=>match s.zG[k]?,s.zL[k]? with
  |some t,some f=>(zIz s n k).set f.toNat (addS ((zIz s n k).getD f.toNat []) (xMz (yEz s.zI t s.zB.toNat) ((wK s.zH).getD f.toNat 0).toNat n) 1)
  |_,_=>zIz s n k
noncomputable def effF (p:xQ) (y:List Int) (n:Nat):List Int:=if p=uO then y else (renderF p [y] n).getD 0 []
def yPz (y:List Int) (n:Nat) (waits:List Int) (l:List xV) (ins:List (List Int)):Nat→List (List Int)
 |0=>ins
 |k+1=>match l[k]? with
  |some s=>(yPz y n waits l ins k).set s.yI.toNat (addS ((yPz y n waits l ins k).getD s.yI.toNat []) (xMz y (waits.getD k 0).toNat n) s.yB)
  |none=>yPz y n waits l ins k
noncomputable def zCz (s:xO) (n:Nat) (ins:List (List Int)) (i:Nat) (x:xP):List Int:=xMz (effF (s.zK.getD i uO) (ins.getD i []) n) x.zZ.toNat n
noncomputable def wR (s:xO) (n:Nat):Nat→List (List Int) × List (List Int)
 |0=>(zIz s n s.zG.length,[])
 |k+1=>match s.zH.zC[k]? with
  |some x=>(yPz (zCz s n (wR s n k).1 k x) n ((zKz s.zH).getD k []) x.zT (wR s n k).1 x.zT.length,(wR s n k).2++ [zCz s n (wR s n k).1 k x])
  |none=>wR s n k
noncomputable def outsF (s:xO):List (List Int):=(wR s (s.zB+zHz s.zH).toNat s.zH.zC.length).2
noncomputable def mixF (s:xO):List Int:=cutL ((outsF s).getD (s.zH.zC.length - 1) []) (zHz s.zH) s.zB.toNat
end
section
open Go.RowKit
def yXz:xU:=⟨0,0,0,0,0⟩
def zQz:xO:=⟨0,[],[],[],[],⟨[]⟩⟩
def wH (e:wV):Prop:=
 if e.zD=1∨e.zD=3 then e.yF=0∧zLz e.yC
 else if e.zD=2 then e.yF=0∧e.yC=yXz
 else if e.zD=4 then e.yG=0∧e.yC=yXz
 else if e.zD=5 then e.yC=yXz
 else False
def uR (s:xO) (t:Int):List xU:=((s.zG[t.toNat]?).map xS.zS).getD []
def yLz (s:xO) (t:Int):List xV:=((s.zH.zC[t.toNat]?).map xP.zT).getD []
theorem wU {s:xO} {k:Nat} {x:xS} (h:s.zG[k]?=some x):uR s (k:Int)=x.zS:=by
 unfold uR;rw[Int.toNat_natCast,h];rfl
theorem xZz {s:xO} {k:Nat} {x:xP} (h:s.zH.zC[k]?=some x):yLz s (k:Int)=x.zT:=by
 unfold yLz;rw[Int.toNat_natCast,h];rfl
def xZ (s:xO) (e:wV):Prop:=
 if e.zD=5 then inB e.yD 0 ((s.zH.zC.length:Int) - 1)=true∧inB e.yG 0 (((yLz s e.yD).length:Int) - 1)=true∧Smp e.yF
 else inB e.yD 0 ((s.zG.length:Int) - 1)=true∧
  (if e.zD=1 then inB e.yG 0 ((uR s e.yD).length:Int)=true∧e.yC.zV<(s.zI.length:Int)
  else if e.zD=3 then inB e.yG 0 (((uR s e.yD).length:Int) - 1)=true∧e.yC.zV<(s.zI.length:Int)
  else if e.zD=2 then inB e.yG 0 (((uR s e.yD).length:Int) - 1)=true
  else inB e.yF 0 ((s.zH.zC.length:Int) - 1)=true)
def vJ (l:List xU) (e:wV):List xU:=
 if e.zD=1 then l.take e.yG.toNat++e.yC :: l.drop e.yG.toNat
 else if e.zD=2 then l.take e.yG.toNat++l.drop (e.yG.toNat+1)
 else l.take e.yG.toNat++e.yC :: l.drop (e.yG.toNat+1)
def vE {α:Type} (l:List α) (k:Nat) (f:α→α):List α:=match l[k]? with|some x=>l.set k (f x)|none=>l
theorem turnAt_of {α:Type} {l:List α} {k:Nat} {f:α→α} {x:α} (h:l[k]?=some x):vE l k f=l.set k (f x):=by unfold vE;rw[h]
theorem vO {α:Type} (l:List α) (k:Nat) (f:α→α):(vE l k f).length=l.length:=by
 unfold vE
 split<;>simp
theorem zWz {α:Type} {l:List α} {k:Nat} {f:α→α} {i:Nat} :(vE l k f)[i]?=(l[i]?).map (fun x=>if i=k then f x else x):=by
 unfold vE
 split
 ·next x h=>
  by_cases e:i=k
  ·subst e
   rw[List.getElem?_set_self (List.getElem?_eq_some_iff.1 h).1,h];simp
  ·rw[List.getElem?_set_ne (fun h=>e h.symm)]
   cases l[i]?<;>simp[e]
 ·next h=>
  by_cases e:i=k
  ·subst e;rw[h];rfl
  ·cases l[i]?<;>simp[e]
def doE (s:xO) (e:wV):xO:=
 if e.zD=4 then { s with zL:=s.zL.set e.yD.toNat e.yF }
 else if e.zD=5 then { s with zH:=⟨vE s.zH.zC e.yD.toNat fun x=> { x with zT:=vE x.zT e.yG.toNat fun y=> { y with yB:=e.yF } }⟩ }
 else { s with zG:=vE s.zG e.yD.toNat fun x=>⟨vJ x.zS e⟩ }
noncomputable def wQ (s:xO) (e:wV):xO × Int:=
 if tf (xW s∧wH e)=true then
  (if tf (xZ s e)=true then
   (if e.zD=1∧12≤(uR s e.yD).length then (zQz,5)
   else if tf (xW (doE s e))=true then (doE s e,0) else (zQz,6))
  else (zQz,2))
 else (zQz,1)
section
variable {s:xO} {e:wV}
theorem wNz (h:wH e):e.zD=1∨e.zD=2∨e.zD=3∨e.zD=4∨e.zD=5:=by
 unfold wH at h;by_cases h1:e.zD=1
 ·exact .inl h1
 by_cases h2:e.zD=2
 ·exact .inr (.inl h2)
 by_cases h3:e.zD=3
 ·exact .inr (.inr (.inl h3))
 by_cases h4:e.zD=4
 ·exact .inr (.inr (.inr (.inl h4)))
 by_cases h5:e.zD=5
 ·exact .inr (.inr (.inr (.inr h5)))
 ·simp[h1,h2,h3,h4,h5] at h
theorem doE_feed (h:xW s) (hr:xZ s e) (hk:e.zD=4):xW (doE s e):=by
 unfold xZ at hr;simp only[hk] at hr;have hv:=wY.1 (show inB e.yF 0 ((s.zH.zC.length:Int) - 1)=true by simpa using hr.2);unfold doE;rw[if_pos hk]
 exact⟨h.length,h.sources,h.few,h.mixer,by simpa using h.feed,fun i x hx=>by
  have hx:(s.zL.set e.yD.toNat e.yF)[i]?=some x:=hx;rw[List.getElem?_set] at hx
  split at hx
  ·split at hx
   ·injection hx with hx;subst hx;exact⟨hv.1,by show e.yF≤(s.zH.zC.length:Int) - 1;omega⟩
   ·cases hx
  ·exact h.feeds i x hx,h.effect,h.tracks,h.effects⟩
theorem befS_turn (l:List xV) (k:Nat) (v strip:Int) (i:Nat):befS (vE l k fun y=> { y with yB:=v }) strip i=befS l strip i:=by
 unfold befS
 split
 ·rfl
 ·rw[List.getD_eq_getElem?_getD,List.getD_eq_getElem?_getD,zWz]
  cases l[i - 1]? with
  |none=>rfl
  |some y=>
   simp only[Option.map_some,Option.getD_some]
   split<;>rfl
theorem sends_turn {l:List xV} {strip n v:Int} {k:Nat} (h:vEz l strip n) (hv:Smp v):vEz (vE l k fun y=> { y with yB:=v }) strip n:=by
 refine⟨fun i x hx=>?_,fun e=>by rw[vO];exact h.last e,fun e=>by rw[vO];exact h.few e⟩
 show inB x.yI (befS (vE l k fun y=> { y with yB:=v }) strip i+1) (n - 1)=true∧Smp x.yB
 rw[befS_turn];rw[zWz] at hx
 cases hg:l[i]? with
 |none=>rw[hg] at hx;cases hx
 |some y=>
  rw[hg] at hx;simp only[Option.map_some] at hx;injection hx with hx;have hy:=h.each i y hg;subst hx
  split
  ·exact⟨hy.1,hv⟩
  ·exact hy
theorem doE_send (h:xW s) (hr:xZ s e) (hk:e.zD=5):xW (doE s e):=by
 unfold xZ at hr;rw[if_pos hk] at hr;have hv:=hr.2.2;unfold doE;rw[if_neg zM,if_pos hk];have hlen:(vE s.zH.zC e.yD.toNat fun x=> { x with zT:=vE x.zT e.yG.toNat fun y=> { y with yB:=e.yF } }).length=s.zH.zC.length:=vO _ _ _;refine⟨h.length,h.sources,h.few,⟨by rw[hlen];exact h.mixer.some_,by rw[hlen];exact h.mixer.few,fun i x hx=>?_⟩,h.feed,by rw[hlen];exact h.feeds,by rw[hlen];exact h.effect,h.tracks,h.effects⟩;rw[hlen];have hx:(vE s.zH.zC e.yD.toNat fun x=> { x with zT:=vE x.zT e.yG.toNat fun y=> { y with yB:=e.yF } })[i]?=some x:=hx;rw[zWz] at hx
 cases hg:s.zH.zC[i]? with
 |none=>rw[hg] at hx;cases hx
 |some x0=>
  rw[hg] at hx;simp only[Option.map_some] at hx;injection hx with hx;obtain⟨h1,h2⟩:=h.mixer.each i x0 hg;have hn:x.yH=x0.yH:=by subst hx;split<;>rfl
  refine⟨?_,fun j y hj hy=>?_⟩
  ·subst hx
   split
   ·exact⟨h1.name,h1.latency,sends_turn h1.sends hv⟩
   ·exact h1
  ·have hy:(vE s.zH.zC e.yD.toNat fun x=> { x with zT:=vE x.zT e.yG.toNat fun y=> { y with yB:=e.yF } })[j]?=some y:=hy
   rw[zWz] at hy
   cases hg2:s.zH.zC[j]? with
   |none=>rw[hg2] at hy;cases hy
   |some y0=>
    rw[hg2] at hy;simp only[Option.map_some] at hy;injection hy with hy;have hn2:y.yH=y0.yH:=by subst hy;split<;>rfl
    rw[hn,hn2];exact h2 j y0 hj hg2
theorem editL_mem {l:List xU} {c:xU} (h:c ∈ vJ l e):c ∈ l∨(c=e.yC∧e.zD≠2):=by
 unfold vJ at h
 split at h
 ·next hk=>
  rcases List.mem_append.1 h with h|h
  ·exact .inl (List.mem_of_mem_take h)
  ·rcases List.mem_cons.1 h with h|h
   ·exact .inr ⟨h,by omega⟩
   ·exact .inl (List.mem_of_mem_drop h)
 ·split at h
  ·rcases List.mem_append.1 h with h|h
   ·exact .inl (List.mem_of_mem_take h)
   ·exact .inl (List.mem_of_mem_drop h)
  ·next h1 h2=>
   rcases List.mem_append.1 h with h|h
   ·exact .inl (List.mem_of_mem_take h)
   ·rcases List.mem_cons.1 h with h|h
    ·exact .inr ⟨h,h2⟩
    ·exact .inl (List.mem_of_mem_drop h)
theorem doE_clips (h:xW s) (hf:wH e) (hr:xZ s e) (h4:e.zD≠4) (h5:e.zD≠5) {t:xS} (ht:s.zG[e.yD.toNat]?=some t):
  xW (doE s e)↔zAz ⟨vJ t.zS e⟩:=by
 unfold doE;rw[if_neg h4,if_neg h5];have hget: ∀ i,(vE s.zG e.yD.toNat fun x=>(⟨vJ x.zS e⟩:xS))[i]?=(s.zG[i]?).map (fun x=>if i=e.yD.toNat then (⟨vJ x.zS e⟩:xS) else x):=fun i=>zWz
 constructor
 ·intro g
  have:=g.tracks e.yD.toNat ⟨vJ t.zS e⟩ (by
   show (vE s.zG e.yD.toNat fun x=>(⟨vJ x.zS e⟩:xS))[e.yD.toNat]?=_
   rw[hget,ht];simp)
  exact this.1
 ·intro g
  have hs:e.zD≠2→e.yC.zV<(s.zI.length:Int):=by
   intro h2;unfold xZ at hr;rw[if_neg h5] at hr;have hr:=hr.2
   rcases wNz hf with k|k|k|k|k
   ·rw[if_pos k] at hr;exact hr.2
   ·exact absurd k h2
   ·rw[if_neg zM,if_pos k] at hr;exact hr.2
   ·exact absurd k h4
   ·exact absurd k h5
  refine⟨h.length,h.sources,by show (vE s.zG _ _).length≤6;rw[vO];exact h.few,h.mixer,by show s.zL.length=(vE s.zG _ _).length;rw[vO];exact h.feed,h.feeds,h.effect,fun i x hx=>?_,h.effects⟩;have hx:(vE s.zG e.yD.toNat fun x=>(⟨vJ x.zS e⟩:xS))[i]?=some x:=hx;rw[hget] at hx
  cases hg:s.zG[i]? with
  |none=>rw[hg] at hx;cases hx
  |some x0=>
   rw[hg] at hx;simp only[Option.map_some] at hx;injection hx with hx;obtain⟨h1,h2⟩:=h.tracks i x0 hg;by_cases hi:i=e.yD.toNat
   ·rw[if_pos hi] at hx
    rw[hi] at hg;rw[ht] at hg;injection hg with hg;subst hg hx;refine⟨g,fun j c hc=>?_⟩
    rcases editL_mem (List.mem_of_getElem? hc) with hm|⟨rfl,hk⟩
    ·exact Each.of_mem.1 h2 c hm
    ·exact hs hk
   ·rw[if_neg hi] at hx
    subst hx;exact⟨h1,h2⟩
end
theorem fieldsB_new {e:wV} (h:e.zD=1∨e.zD=3):tf (wH e)=(decide (e.yF=0) && tf (zLz e.yC)):=by
 unfold wH;rw[if_pos h,←wZz,uZ]
theorem fieldsB_rem {e:wV} (h:e.zD=2):tf (wH e)=(decide (e.yF=0) && decide (e.yC=yXz)):=by
 unfold wH;rw[if_neg zM,if_pos h,←wZz,uZ,uZ]
theorem fieldsB_feed {e:wV} (h:e.zD=4):tf (wH e)=(decide (e.yG=0) && decide (e.yC=yXz)):=by
 unfold wH;rw[if_neg zM,if_neg zM,if_pos h,←wZz,uZ,uZ]
theorem fieldsB_send {e:wV} (h:e.zD=5):tf (wH e)=decide (e.yC=yXz):=by
 unfold wH;rw[if_neg zM,if_neg zM,if_neg zM,if_pos h,uZ]
theorem fieldsB_none {e:wV} (h: ¬ (e.zD=1∨e.zD=3)) (h2:e.zD≠2) (h4:e.zD≠4) (h5:e.zD≠5):tf (wH e)=false:=by
 unfold wH;rw[if_neg h,if_neg h2,if_neg h4,if_neg h5];exact xH (fun h=>h)
section
variable {s:xO} {e:wV}
theorem rangeB_send (h:e.zD=5):tf (xZ s e)=(inB e.yD 0 ((s.zH.zC.length:Int) - 1) && (inB e.yG 0 (((yLz s e.yD).length:Int) - 1) && decide (Smp e.yF))):=by
 unfold xZ;rw[if_pos h,←wZz,←wZz,uZ,uZ,uZ];simp
theorem rangeB_out (h:e.zD≠5) (ht:inB e.yD 0 ((s.zG.length:Int) - 1)=false):tf (xZ s e)=false:=by
 unfold xZ;rw[if_neg h];exact xH (fun k=>by rw[ht] at k;exact absurd k.1 (by simp))
theorem rangeB_ins (h:e.zD=1) (ht:inB e.yD 0 ((s.zG.length:Int) - 1)=true):tf (xZ s e)=(inB e.yG 0 ((uR s e.yD).length:Int) && decide (e.yC.zV<(s.zI.length:Int))):=by
 unfold xZ;rw[if_neg zM,if_pos h,←wZz,←wZz,uZ,uZ,uZ,ht];simp
theorem rangeB_rep (h:e.zD=3) (ht:inB e.yD 0 ((s.zG.length:Int) - 1)=true):tf (xZ s e)=(inB e.yG 0 (((uR s e.yD).length:Int) - 1) && decide (e.yC.zV<(s.zI.length:Int))):=by
 unfold xZ;rw[if_neg zM,if_neg zM,if_pos h,←wZz,←wZz,uZ,uZ,uZ,ht];simp
theorem rangeB_rem (h:e.zD=2) (ht:inB e.yD 0 ((s.zG.length:Int) - 1)=true):tf (xZ s e)=inB e.yG 0 (((uR s e.yD).length:Int) - 1):=by
 unfold xZ;rw[if_neg zM,if_neg zM,if_neg zM,if_pos h,←wZz,uZ,uZ,ht];simp
theorem rangeB_feed (h5:e.zD≠5) (h1:e.zD≠1) (h2:e.zD≠2) (h3:e.zD≠3) (ht:inB e.yD 0 ((s.zG.length:Int) - 1)=true):tf (xZ s e)=inB e.yF 0 ((s.zH.zC.length:Int) - 1):=by
 unfold xZ;rw[if_neg h5,if_neg h1,if_neg h3,if_neg h2,←wZz,uZ,uZ,ht];simp
end
end
section
open Go.RowKit
def uS (s:xO) (e:wV):xU:=(uR s e.yD).getD e.yG.toNat yXz
def uI (s:xO) (e:wV):wV:=
 if e.zD=1 then { e with zD:=2,yC:=yXz }
 else if e.zD=2 then { e with zD:=1,yC:=uS s e }
 else if e.zD=3 then { e with yC:=uS s e }
 else if e.zD=4 then { e with yF:=s.zL.getD e.yD.toNat 0 }
 else { e with yF:=((yLz s e.yD).getD e.yG.toNat ⟨0,0⟩).yB }
section
variable {s:xO} {e:wV}
theorem xIz (h:(wQ s e).2=0):xW s∧wH e∧xZ s e∧ ¬ (e.zD=1∧12≤(uR s e.yD).length)∧xW (doE s e)∧(wQ s e).1=doE s e:=by
 unfold wQ at h ⊢;by_cases h1:tf (xW s∧wH e)=true
 ·rw[if_pos h1] at h ⊢
  by_cases h2:tf (xZ s e)=true
  ·rw[if_pos h2] at h ⊢
   by_cases h3:e.zD=1∧12≤(uR s e.yD).length
   ·rw[if_pos h3] at h
    exact absurd h (by decide)
   ·rw[if_neg h3] at h ⊢
    by_cases h4:tf (xW (doE s e))=true
    ·rw[if_pos h4]
     exact⟨(zPy.1 h1).1,(zPy.1 h1).2,zPy.1 h2,h3,zPy.1 h4,rfl⟩
    ·rw[if_neg h4] at h
     exact absurd h (by decide)
  ·rw[if_neg h2] at h
   exact absurd h (by decide)
 ·rw[if_neg h1] at h
  exact absurd h (by decide)
theorem zUy (h1:xW s) (h2:wH e) (h3:xZ s e) (h4: ¬ (e.zD=1∧12≤(uR s e.yD).length)) (h5:xW (doE s e)):wQ s e=(doE s e,0):=by
 unfold wQ;rw[if_pos (xI ⟨h1,h2⟩),if_pos (xI h3),if_neg h4,if_pos (xI h5)]
theorem vV (h:xZ s e) (h5:e.zD≠5): ∃ k t,e.yD=((k:Nat):Int)∧s.zG[k]?=some t:=by
 unfold xZ at h;rw[if_neg h5] at h;have:=wY.1 h.1;refine⟨e.yD.toNat,s.zG[e.yD.toNat]'zM,by omega,gE _⟩
theorem wOz {α:Type} {l:List α} {k:Nat} {f g:α→α} {x:α} (h:l[k]?=some x) (hg:g (f x)=x):vE (vE l k f) k g=l:=by
 apply List.ext_getElem?
 intro i;rw[zWz,zWz]
 cases hi:l[i]? with
 |none=>rfl
 |some y=>
  simp only[Option.map_some];by_cases e:i=k
  ·subst e
   rw[h] at hi;injection hi with hi;subst hi;rw[if_pos rfl,if_pos rfl,hg]
  ·rw[if_neg e,if_neg e]
theorem cut_at {α:Type} {l:List α} {k:Nat} {x:α} (h:l[k]?=some x):l=l.take k++x :: l.drop (k+1):=by
 obtain⟨hk,he⟩:=List.getElem?_eq_some_iff.1 h;rw[←he,List.getElem_cons_drop hk,List.take_append_drop]
theorem take_mid {α:Type} {a b:List α} {k:Nat} (h:a.length=k):(a++b).take k=a:=by subst h;simp
theorem drop_mid {α:Type} {a b:List α} {k:Nat} (h:a.length=k):(a++b).drop k=b:=by subst h;simp
theorem drop_mid1 {α:Type} {a b:List α} {x:α} {k:Nat} (h:a.length=k):(a++x :: b).drop (k+1)=b:=by
 subst h;rw[show a++x :: b=(a++ [x])++b by simp];exact drop_mid (by simp)
theorem zZz (s:xO) (e:wV) (h4:e.zD≠4) (h5:e.zD≠5):doE s e= { s with zG:=vE s.zG e.yD.toNat fun x=>⟨vJ x.zS e⟩ } :=by
 unfold doE;rw[if_neg h4,if_neg h5]
theorem zGy {k:Nat} {t:xS} (h4:e.zD≠4) (h5:e.zD≠5) (hk:e.yD=(k:Int)) (ht:s.zG[k]?=some t):uR (doE s e) e.yD=vJ t.zS e:=by
 rw[zZz s e h4 h5,hk];refine wU (x:=⟨vJ t.zS e⟩) ?_
 show (vE s.zG _ _)[k]?=_
 rw[zWz,ht,Int.toNat_natCast];simp
theorem apply_back (h:(wQ s e).2=0):wQ (wQ s e).1 (uI s e)=(s,0):=by
 obtain⟨h1,h2,h3,h4,h5,h6⟩:=xIz h;rw[h6]
 have key:wH (uI s e)∧xZ (doE s e) (uI s e)∧ ¬ ((uI s e).zD=1∧12≤(uR (doE s e) (uI s e).yD).length)∧doE (doE s e) (uI s e)=s:=by
  rcases wNz h2 with k|k|k|k|k
  ·-- an insertion is removed
   obtain⟨n,t,hn,ht⟩:=vV h3 zM;have hc:=zGy zM zM hn ht;have hi:uI s e= { e with zD:=2,yC:=yXz } :=by unfold uI;rw[if_pos k]
   have hf:=h2;unfold wH at hf;rw[if_pos (.inl k)] at hf;have hr:=h3;unfold xZ at hr;rw[if_neg zM,if_pos k] at hr;rw[hn,wU ht] at hr;have r1:=wY.1 hr.1;have r2:=wY.1 hr.2.1
   have hlen:(vJ t.zS e).length=t.zS.length+1:=by
    unfold vJ;rw[if_pos k];simp;omega
   rw[hi];refine⟨?_,?_,?_,?_⟩
   ·unfold wH
    simp only[];rw[if_neg zM,if_pos trivial];exact⟨hf.1,trivial⟩
   ·unfold xZ
    simp only[];rw[if_neg zM,if_neg zM,if_neg zM,if_pos trivial,hc,hlen];refine⟨?_,wY.2 zM⟩;rw[zZz s e zM zM];simp only[vO];exact wY.2 zM
   ·simp
   ·rw[zZz _ _ (by simp) (by simp),zZz s e zM zM,hn,Int.toNat_natCast]
    simp only[];rw[wOz ht ?_];have ha:(t.zS.take e.yG.toNat).length=e.yG.toNat:=by rw[List.length_take];omega
    simp only[vJ,k,if_true,show ¬ ((2:Int)=1) by omega,if_false];rw[take_mid ha,drop_mid1 ha,List.take_append_drop]
  ·-- a removal is inserted
   obtain⟨n,t,hn,ht⟩:=vV h3 zM;have hc:=zGy zM zM hn ht;have hi:uI s e= { e with zD:=1,yC:=uS s e } :=by unfold uI;rw[if_neg zM,if_pos k]
   have hf:=h2;unfold wH at hf;rw[if_neg zM,if_pos k] at hf;have hr:=h3;unfold xZ at hr;rw[if_neg zM,if_neg zM,if_neg zM,if_pos k] at hr;rw[hn,wU ht] at hr;have r1:=wY.1 hr.1;have r2:=wY.1 hr.2;have hget:t.zS[e.yG.toNat]?=some (t.zS[e.yG.toNat]'zM):=gE _
   have hca:uS s e=t.zS[e.yG.toNat]'zM:=by
    unfold uS;rw[hn,wU ht,List.getD_eq_getElem?_getD,hget];rfl
   have hlen:(vJ t.zS e).length=t.zS.length - 1:=by
    unfold vJ;rw[if_neg zM,if_pos k];simp;omega
   obtain⟨tk,src⟩:=h1.tracks n t ht;rw[hi];refine⟨?_,?_,?_,?_⟩
   ·unfold wH
    simp only[];rw[if_pos (.inl trivial),hca];exact⟨hf.1,(tk.clips _ _ hget).1⟩
   ·unfold xZ
    simp only[];rw[if_neg zM,if_pos trivial,hc,hlen,hca];refine⟨?_,wY.2 zM,?_⟩
    ·rw[zZz s e zM zM]
     simp only[vO];exact wY.2 zM
    ·rw[zZz s e zM zM]
     exact src _ _ hget
   ·simp only[]
    rw[hc,hlen];have:=tk.few
    omega
   ·rw[zZz _ _ (by simp) (by simp),zZz s e zM zM,hn,Int.toNat_natCast]
    simp only[];rw[wOz ht ?_];have ha:(t.zS.take e.yG.toNat).length=e.yG.toNat:=by rw[List.length_take];omega
    simp only[vJ,k,if_true,show ¬ ((2:Int)=1) by omega,if_false];rw[take_mid ha,drop_mid ha,hca,←cut_at hget]
  ·-- a replacement
   obtain⟨n,t,hn,ht⟩:=vV h3 zM;have hc:=zGy zM zM hn ht;have hi:uI s e= { e with yC:=uS s e } :=by unfold uI;rw[if_neg zM,if_neg zM,if_pos k]
   have hf:=h2;unfold wH at hf;rw[if_pos (.inr k)] at hf;have hr:=h3;unfold xZ at hr;rw[if_neg zM,if_neg zM,if_pos k] at hr;rw[hn,wU ht] at hr;have r1:=wY.1 hr.1;have r2:=wY.1 hr.2.1;have hget:t.zS[e.yG.toNat]?=some (t.zS[e.yG.toNat]'zM):=gE _
   have hca:uS s e=t.zS[e.yG.toNat]'zM:=by
    unfold uS;rw[hn,wU ht,List.getD_eq_getElem?_getD,hget];rfl
   have hlen:(vJ t.zS e).length=t.zS.length:=by
    unfold vJ;rw[if_neg zM,if_neg zM];simp;omega
   obtain⟨tk,src⟩:=h1.tracks n t ht;rw[hi];refine⟨?_,?_,?_,?_⟩
   ·unfold wH
    simp only[];rw[if_pos (.inr k),hca];exact⟨hf.1,(tk.clips _ _ hget).1⟩
   ·unfold xZ
    simp only[];rw[if_neg zM,if_neg zM,if_pos k,hc,hlen,hca];refine⟨?_,wY.2 zM,?_⟩
    ·rw[zZz s e zM zM]
     simp only[vO];exact wY.2 zM
    ·rw[zZz s e zM zM]
     exact src _ _ hget
   ·simp[k]
   ·rw[zZz _ _ (by simp[k]) (by simp[k]),zZz s e zM zM,hn,Int.toNat_natCast]
    simp only[];rw[wOz ht ?_];have ha:(t.zS.take e.yG.toNat).length=e.yG.toNat:=by rw[List.length_take];omega
    simp only[vJ,k,show ¬ ((3:Int)=1) by omega,show ¬ ((3:Int)=2) by omega,if_false];rw[take_mid ha,drop_mid1 ha,hca,←cut_at hget]
  ·-- a feed
   have hi:uI s e= { e with yF:=s.zL.getD e.yD.toNat 0 } :=by unfold uI;rw[if_neg zM,if_neg zM,if_neg zM,if_pos k]
   have hf:=h2;unfold wH at hf;rw[if_neg zM,if_neg zM,if_pos k] at hf;have hr:=h3;unfold xZ at hr;rw[if_neg zM,if_neg zM,if_neg zM,if_neg zM] at hr;have r1:=wY.1 hr.1;have r2:=wY.1 hr.2;have hfl:=h1.feed;have hget:s.zL[e.yD.toNat]?=some (s.zL[e.yD.toNat]'zM):=gE _;have hfe:=h1.feeds _ _ hget;have hd:s.zL.getD e.yD.toNat 0=s.zL[e.yD.toNat]'zM:=by rw[List.getD_eq_getElem?_getD,hget];rfl
   have hdo:doE s e= { s with zL:=s.zL.set e.yD.toNat e.yF } :=by unfold doE;rw[if_pos k]
   rw[hi,hdo];refine⟨?_,?_,?_,?_⟩
   ·unfold wH
    simp only[];rw[if_neg zM,if_neg zM,if_pos k];exact hf
   ·unfold xZ
    simp only[];rw[if_neg zM,if_neg zM,if_neg zM,if_neg zM,hd];exact⟨hr.1,wY.2 zM⟩
   ·simp[k]
   ·unfold doE
    simp only[];rw[if_pos k,hd,List.set_set,List.set_getElem_self]
  ·-- a send
   have hi:uI s e= { e with yF:=((yLz s e.yD).getD e.yG.toNat ⟨0,0⟩).yB } :=by unfold uI;rw[if_neg zM,if_neg zM,if_neg zM,if_neg zM]
   have hf:=h2;unfold wH at hf;rw[if_neg zM,if_neg zM,if_neg zM,if_pos k] at hf;have hr:=h3;unfold xZ at hr;rw[if_pos k] at hr;have r1:=wY.1 hr.1;have hgs:s.zH.zC[e.yD.toNat]?=some (s.zH.zC[e.yD.toNat]'zM):=gE _;generalize s.zH.zC[e.yD.toNat]'zM=st at hgs;have hsa:yLz s e.yD=st.zT:=by unfold yLz;rw[hgs];rfl
   rw[hsa] at hr hi;have r2:=wY.1 hr.2.1;have hget:st.zT[e.yG.toNat]?=some (st.zT[e.yG.toNat]'zM):=gE _;generalize st.zT[e.yG.toNat]'zM=sd at hget;have hd:st.zT.getD e.yG.toNat ⟨0,0⟩=sd:=by rw[List.getD_eq_getElem?_getD,hget];rfl
   rw[hd] at hi;have hsm:=((h1.mixer.each _ _ hgs).1.sends.each _ _ hget).2;have hdo:doE s e= { s with zH:=⟨vE s.zH.zC e.yD.toNat fun x=> { x with zT:=vE x.zT e.yG.toNat fun y=> { y with yB:=e.yF } }⟩ } :=by unfold doE;rw[if_neg zM,if_pos k]
   have hsb:yLz (doE s e) e.yD=vE st.zT e.yG.toNat fun y=> { y with yB:=e.yF } :=by
    rw[hdo];unfold yLz;simp only[];rw[zWz,hgs];simp
   rw[hi];refine⟨?_,?_,?_,?_⟩
   ·unfold wH
    simp only[];rw[if_neg zM,if_neg zM,if_neg zM,if_pos k];exact hf
   ·unfold xZ
    simp only[];rw[if_pos k,hsb,vO,hdo];simp only[vO];exact⟨hr.1,hr.2.1,hsm⟩
   ·simp[k]
   ·rw[hdo]
    unfold doE;simp only[];rw[if_neg zM,if_pos k];rw[wOz hgs ?_];simp only[];rw[wOz hget rfl]
 obtain⟨k1,k2,k3,k4⟩:=key;rw[zUy h5 k1 k2 k3 (by rw[k4];exact h1),k4]
end
end
section
open Go.RowKit
def vI (x:xR):List Int:=
 if x.zD=6 then List.replicate x.fA.toNat 0
 else if x.zD=17 then List.replicate x.fB.toNat 0
 else if x.zD=7∨x.zD=8∨x.zD=16 then [0]
 else if x.zD=12∨x.zD=14 then [x.fA]
 else []
def uU (p:xQ):Bool:=p.zF.any fun x=>decide (0<(vI x).length)
def xQz (s:xO) (j:Int):xQ:=(s.zK[j.toNat]?).getD uO
inductive Ring (s:xO):Int→Prop
 |own {j:Int} :uU (xQz s j)=true→Ring s j
 |send {j:Int} {x:xV} :x ∈ yLz s j→Ring s x.yI→Ring s j
theorem ring_iff {s:xO} {j:Int} :Ring s j↔uU (xQz s j)=true∨ ∃ x ∈ yLz s j,Ring s x.yI:=by
 constructor
 ·intro h
  cases h with
  |own h=>exact .inl h
  |send h1 h2=>exact .inr ⟨_,h1,h2⟩
 ·rintro(h|⟨x,h1,h2⟩)
  ·exact .own h
  ·exact .send h1 h2
def lowF (a:Int) (l:List xU):Int:=l.foldl (fun a c=>min a c.yE) a
def vHz (b:Int) (l:List xU):Int:=l.foldl (fun b c=>max b (c.yE+c.zB)) b
theorem lowF_snoc (a:Int) (l:List xU) (c:xU):lowF a (l++ [c])=min (lowF a l) c.yE:=by simp[lowF]
theorem highF_snoc (b:Int) (l:List xU) (c:xU):vHz b (l++ [c])=max (vHz b l) (c.yE+c.zB):=by simp[vHz]
theorem lowF_le: ∀ (l:List xU) (a:Int),lowF a l≤a
 | [],a=>Int.le_refl _
 |c :: r,a=>Int.le_trans (lowF_le r (min a c.yE)) (Int.min_le_left _ _)
theorem highF_ge: ∀ (l:List xU) (b:Int),b≤vHz b l
 | [],b=>Int.le_refl _
 |c :: r,b=>Int.le_trans (Int.le_max_left _ _) (highF_ge r (max b (c.yE+c.zB)))
def uV (l:List xU):Int × Int:=match l with
 | []=>(0,0)
 |c :: r=>(lowF c.yE (c :: r),vHz 0 (c :: r))
theorem spanF_lt {c:xU} {r:List xU} (h:1≤c.zB):(uV (c :: r)).1<(uV (c :: r)).2:=by
 show lowF c.yE (c :: r)<vHz 0 (c :: r)
 have h1:=lowF_le (c :: r) c.yE;have h2:max 0 (c.yE+c.zB)≤vHz 0 (c :: r):=highF_ge r (max 0 (c.yE+c.zB))
 omega
def wO (s:xO) (e:wV):List xU:=
 if e.zD=1 then [e.yC] else if e.zD=2 then [uS s e] else if e.zD=3 then [uS s e,e.yC]
 else if e.yF=s.zL.getD e.yD.toNat 0 then [] else uR s e.yD
def xDz (s:xO) (e:wV):Prop:=Ring s (s.zL.getD e.yD.toNat 0)∨(e.zD=4∧Ring s e.yF)
noncomputable def vH (s:xO) (e:wV):Int × Int:=
 if e.zD=5 then (0,s.zB)
 else if wO s e= [] then (0,0)
 else if (uV (wO s e)).1<min (if tf (xDz s e)=true then s.zB else (uV (wO s e)).2) s.zB then
  ((uV (wO s e)).1,min (if tf (xDz s e)=true then s.zB else (uV (wO s e)).2) s.zB)
 else (0,0)
noncomputable def wSz (s:xO) (e:wV):Int × Int × Int:=
 if (wQ s e).2=0 then ((vH s e).1,(vH s e).2,0) else (0,0,(wQ s e).2)
end
end Go.Proofs.YtdcofkabaigjpaaGreat
