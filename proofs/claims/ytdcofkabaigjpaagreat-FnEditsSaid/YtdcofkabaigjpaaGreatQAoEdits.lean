/- The mix of a valid session: lengths, samples, waits. Rows of numbers that a call owns, laid open. Memory while a mix is made: the inputs of all strips, the outputs, the times at which they are right. Contracts: nested data laid anew. Draws: signals, tables, nodes. Drawn regions: three operations of which each may come up; one that comes last. No program is named here. Draws: a node. Memory of data that are being made: numbers put into place, nodes turned, lists that grow. No program is named here. -/
import Derived.Test.YtdcofkabaigjpaaGreatQAnEdits
set_option linter.unusedVariables false
set_option linter.unusedSimpArgs false
set_option maxHeartbeats 4000000
set_option maxRecDepth 100000
namespace Go.Proofs.YtdcofkabaigjpaaGreat
section
open Go.RowKit
section
variable {i:Nat} {lat:Int} {out:List Int} {l:List xV}
theorem entS_keep {j:Nat} (hj: ∀ s ∈ l,s.yI.toNat≠j): ∀ k,(xSz i lat out l k).getD j 0=out.getD j 0
 |0=>rfl
 |k+1=>by
  have ih:=entS_keep hj k;simp only[xSz]
  split
  ·next s hs=>rw[wJz (hj s (List.mem_of_getElem? hs))];exact ih
  ·exact ih
theorem entS_grow (j k:Nat):(xSz i lat out l k).getD j 0≤(xSz i lat out l (k+1)).getD j 0:=by
 simp only[xSz]
 split
 ·next s hs=>
  by_cases e:s.yI.toNat=j
  ·subst e
   by_cases hl:s.yI.toNat<(xSz i lat out l k).length
   ·rw[zVz hl];exact Int.le_max_left _ _
   ·rw[List.set_eq_of_length_le zM];exact Int.le_refl _
  ·rw[wJz e];exact Int.le_refl _
 ·exact Int.le_refl _
theorem entS_ge (j:Nat): ∀ k,out.getD j 0≤(xSz i lat out l k).getD j 0
 |0=>Int.le_refl _
 |k+1=>Int.le_trans (entS_ge j k) (entS_grow j k)
theorem entS_hit {q:Nat} {s:xV} (hs:l[q]?=some s) (hi: ∀ s ∈ l,s.yI.toNat≠i) (hl:s.yI.toNat<out.length): ∀ k,q<k→out.getD i 0+lat≤(xSz i lat out l k).getD s.yI.toNat 0
 |0,h=>absurd h zM
 |k+1,h=>by
  by_cases e:k=q
  ·subst e
   simp only[xSz,hs];rw[zVz (by rw[wMz];exact hl),entS_keep hi];exact Int.le_max_right _ _
  ·exact Int.le_trans (entS_hit hs hi hl k zM) (entS_grow _ k)
end
section
variable {l:List xP}
theorem entUp_grow (j k:Nat):(uX l k).getD j 0≤(uX l (k+1)).getD j 0:=by
 simp only[uX]
 split
 ·exact entS_ge j _
 ·exact Int.le_refl _
theorem entUp_ge (j k:Nat): ∀ d,(uX l k).getD j 0≤(uX l (k+d)).getD j 0
 |0=>Int.le_refl _
 |d+1=>Int.le_trans (entUp_ge j k d) (entUp_grow j (k+d))
theorem entUp_keep (hto: ∀ (i:Nat) (x:xP),l[i]?=some x→ ∀ s ∈ x.zT,i<s.yI.toNat) (i:Nat): ∀ d,(uX l (i+d)).getD i 0=(uX l i).getD i 0
 |0=>rfl
 |d+1=>by
  have ih:=entUp_keep hto i d;rw[←Nat.add_assoc];simp only[uX]
  split
  ·next x hx=>rw[entS_keep (fun s hs=>by have:=hto _ _ hx s hs;omega)];exact ih
  ·exact ih
end
theorem mix_forward {m:vF} (h:zSz m): ∀ (i:Nat) (x:xP),m.zC[i]?=some x→ ∀ s ∈ x.zT,i<s.yI.toNat:=by
 intro i x hx s hs;obtain⟨k,hk⟩:=List.mem_iff_getElem?.1 hs;have:=xBz h hx k s hk
 omega
theorem wait_ok {m:vF} (h:zSz m) {i:Nat} {x:xP} (hx:m.zC[i]?=some x) {q:Nat} {s:xV} (hs:x.zT[q]?=some s):0≤xPz (wK m) i x s∧xPz (wK m) i x s≤256:=by
 have hf:=mix_forward h;have hi:i<m.zC.length:=(List.getElem?_eq_some_iff.1 hx).1;have hq:q<x.zT.length:=(List.getElem?_eq_some_iff.1 hs).1;have ht:=xBz h hx q s hs;have hm:=hf i x hx s (List.mem_of_getElem? hs);have hl:=wY.1 (h.each i x hx).1.latency
 have e1:(wK m).getD i 0=(uX m.zC i).getD i 0:=by
  have:=entUp_keep hf i (m.zC.length - i);rw[show i+(m.zC.length - i)=m.zC.length by omega] at this;exact this
 have e2:(uX m.zC (i+1)).getD s.yI.toNat 0≤(wK m).getD s.yI.toNat 0:=by
  have:=entUp_ge (l:=m.zC) s.yI.toNat (i+1) (m.zC.length - (i+1));rw[show i+1+(m.zC.length - (i+1))=m.zC.length by omega] at this;exact this
 have e3:(uX m.zC i).getD i 0+x.zZ≤(uX m.zC (i+1)).getD s.yI.toNat 0:=by
  simp only[uX,hx];exact entS_hit hs (fun s' hs' e=>by have:=hf i x hx s' hs';omega) (by rw[xOz];omega) _ hq
 have u1:=zYz h i;have u2:=zYz h s.yI.toNat;unfold xPz
 omega
structure xTz (m n:Nat) (ins:List (List Int)):Prop where
 len:ins.length=m
 each: ∀ l ∈ ins,l.length=n∧ ∀ y ∈ l,Smp y
section
variable {m n:Nat} {ins:List (List Int)}
theorem xTz.get (h:xTz m n ins) {i:Nat} (hi:i<m): ∃ l,ins[i]?=some l∧ins.getD i []=l∧l.length=n∧ ∀ y ∈ l,Smp y:=by
 have hg:=gE (show i<ins.length by rw[h.len];exact hi);have:=h.each _ (List.mem_of_getElem? hg);exact⟨_,hg,by rw[List.getD_eq_getElem?_getD,hg];rfl,this.1,this.2⟩
theorem xTz.set (h:xTz m n ins) (i:Nat) {l:List Int} (h1:l.length=n) (h2: ∀ y ∈ l,Smp y):xTz m n (ins.set i l):=by
 refine⟨by rw[List.length_set,h.len],fun l' hl'=>?_⟩
 rcases List.mem_or_eq_of_mem_set hl' with e|e
 ·exact h.each l' e
 ·subst e;exact⟨h1,h2⟩
theorem xTz.add (h:xTz m n ins) {i:Nat} (hi:i<m) {b:List Int} (hb:b.length=n) (g:Int):xTz m n (ins.set i (addS (ins.getD i []) b g)):=by
 obtain⟨l,_,e,h1,_⟩:=h.get hi;rw[e];exact h.set i (by rw[length_addS,h1,hb,Nat.max_self]) smp_addS
end
theorem ins_zero (m n:Nat):xTz m n (List.replicate m (List.replicate n 0)):=
 ⟨by simp,fun l hl=>by rw[(List.mem_replicate.1 hl).2];exact⟨by simp,smp_zeros⟩⟩
theorem wYz {s:xO} (h:xW s) (n:Nat): ∀ k,xTz s.zH.zC.length n (zIz s n k)
 |0=>ins_zero _ _
 |k+1=>by
  have ih:=wYz h n k;simp only[zIz]
  split
  ·next t f ht hf=>exact ih.add (by have:=h.feeds k f hf;omega) (xNz _ _ _) 1
  ·exact ih
theorem vWz {m n:Nat} {y:List Int} {waits:List Int} {l:List xV} {ins:List (List Int)} (h:xTz m n ins) (hto: ∀ s ∈ l,s.yI.toNat<m): ∀ k,xTz m n (yPz y n waits l ins k)
 |0=>h
 |k+1=>by
  have ih:=vWz (y:=y) (waits:=waits) h hto k;simp only[yPz]
  split
  ·next s hs=>exact ih.add (hto s (List.mem_of_getElem? hs)) (xNz _ _ _) _
  ·exact ih
theorem uKz {ins:List (List Int)} (h: ∀ l ∈ ins,∀ y ∈ l,Smp y) (t:Nat): ∀ y ∈ yDz ins t,Smp y:=by
 intro y hy;unfold yDz at hy;obtain⟨l,hl,rfl⟩:=List.mem_map.1 hy;exact wXz (h l hl) _
theorem uLz {p:xQ} (h:vZ p) {ins:List (List Int)} (hi: ∀ l ∈ ins,∀ y ∈ l,Smp y): ∀ t,StOk p (zUz p ins t)
 |0=>st_start h
 |t+1=>st_next h (uLz h hi t) (uKz hi t) (valsF_smp h (uLz h hi t) (uKz hi t))
theorem valsAt_smp {p:xQ} (h:vZ p) {ins:List (List Int)} (hi: ∀ l ∈ ins,∀ y ∈ l,Smp y) (t:Nat): ∀ y ∈ yKz p ins t,Smp y:=
 valsF_smp h (uLz h hi t) (uKz hi t)
theorem vNz (p:xQ) (ins:List (List Int)) (t:Nat):(yKz p ins t).length=p.zF.length:=length_valsF
def rowF (p:xQ) (y:List Int) (n:Nat):List Int:=(List.range n).map fun t=>(yKz p [y] t).getD (p.zX.getD 0 0).toNat 0
theorem zHy (p:xQ) (y:List Int) (n:Nat):(rowF p y n).length=n:=by simp[rowF]
theorem rowF_snoc (p:xQ) (y:List Int) (n:Nat):rowF p y (n+1)=rowF p y n++ [(yKz p [y] n).getD (p.zX.getD 0 0).toNat 0]:=by simp[rowF,List.range_succ]
theorem rowF_smp {p:xQ} (h:vZ p) {y:List Int} (hy: ∀ z ∈ y,Smp z) (n:Nat): ∀ z ∈ rowF p y n,Smp z:=by
 intro z hz;unfold rowF at hz;obtain⟨t,_,rfl⟩:=List.mem_map.1 hz;exact wLz (valsAt_smp h (fun l hl=>by simp at hl;subst hl;exact hy) t) _
theorem render_row {p:xQ} (h:p.zX.length=1) (y:List Int) (n:Nat):renderF p [y] n= [rowF p y n]:=by
 unfold renderF rowF
 match hp:p.zX with
 | []=>rw[hp] at h;simp at h
 | [o]=>rfl
 |o :: o' :: r=>rw[hp] at h;simp at h
theorem yWy {p:xQ} (h:p.zX.length=1) (hn: ¬ p=uO) (y:List Int) (n:Nat):effF p y n=rowF p y n:=by
 unfold effF;rw[if_neg hn,render_row h];rfl
theorem effF_ok {p:xQ} (h:wEz p) {y:List Int} {n:Nat} (hl:y.length=n) (hy: ∀ z ∈ y,Smp z):(effF p y n).length=n∧ ∀ z ∈ effF p y n,Smp z:=by
 by_cases e:p=uO
 ·unfold effF;rw[if_pos e];exact⟨hl,hy⟩
 ·rcases h with h|⟨h1,_,h3⟩
  ·exact absurd h e
  ·rw[yWy h3 e];exact⟨zHy _ _ _,rowF_smp h1 hy n⟩
theorem stripY_ok {s:xO} {n:Nat} {ins:List (List Int)} {i:Nat} {x:xP} (hs:xW s) (h:xTz s.zH.zC.length n ins) (hi:i<s.zH.zC.length):(zCz s n ins i x).length=n∧ ∀ z ∈ zCz s n ins i x,Smp z:=by
 unfold zCz;obtain⟨l,_,e,h1,h2⟩:=h.get hi;have hg:=gE (show i<s.zK.length by rw[hs.effect];exact hi);rw[e,List.getD_eq_getElem?_getD,hg];exact⟨xNz _ _ _,smp_lateF (effF_ok (hs.effects i _ hg) h1 h2).2⟩
theorem to_lt {m:vF} (h:zSz m) {i:Nat} {x:xP} (hx:m.zC[i]?=some x): ∀ s ∈ x.zT,s.yI.toNat<m.zC.length:=by
 intro s hs;obtain⟨k,hk⟩:=List.mem_iff_getElem?.1 hs;have:=xBz h hx k s hk
 omega
theorem wAz {s:xO} (h:xW s) (n:Nat): ∀ k,k≤s.zH.zC.length→xTz s.zH.zC.length n (wR s n k).1∧xTz k n (wR s n k).2
 |0,_=>⟨wYz h n _,⟨rfl,fun l hl=>by simp[wR] at hl⟩⟩
 |k+1,hk=>by
  obtain⟨h1,h2⟩:=wAz h n k zM;have hg:=gE (show k<s.zH.zC.length by omega);simp only[wR,hg];refine⟨vWz h1 (to_lt h.mixer hg) _,⟨by simp[h2.len],fun l hl=>?_⟩⟩
  rcases List.mem_append.1 hl with hl|hl
  ·exact h2.each l hl
  ·simp at hl;subst hl;exact stripY_ok h h1 zM
theorem uMz {s:xO} {n k:Nat} {x:xP} (hx:s.zH.zC[k]?=some x):wR s n (k+1)=(yPz (zCz s n (wR s n k).1 k x) n ((zKz s.zH).getD k []) x.zT (wR s n k).1 x.zT.length,(wR s n k).2++ [zCz s n (wR s n k).1 k x]):=by
 simp only[wR,hx]
theorem zIy {s:xO} {n k:Nat} {t:xS} {f:Int} (ht:s.zG[k]?=some t) (hf:s.zL[k]?=some f):zIz s n (k+1)=(zIz s n k).set f.toNat (addS ((zIz s n k).getD f.toNat []) (xMz (yEz s.zI t s.zB.toNat) ((wK s.zH).getD f.toNat 0).toNat n) 1):=by
 simp only[zIz,ht,hf]
theorem zJy {y:List Int} {n:Nat} {waits:List Int} {l:List xV} {ins:List (List Int)} {k:Nat} {s:xV} (hs:l[k]?=some s):yPz y n waits l ins (k+1)=(yPz y n waits l ins k).set s.yI.toNat (addS ((yPz y n waits l ins k).getD s.yI.toNat []) (xMz y (waits.getD k 0).toNat n) s.yB):=by
 simp only[yPz,hs]
theorem total_ok {m:vF} (h:zSz m):0≤zHz m∧zHz m≤288:=by
 have hn:=h.some_;have hg:=gE (show m.zC.length - 1<m.zC.length by omega);have h1:=zYz h (m.zC.length - 1);have h2:=wY.1 (h.each _ _ hg).1.latency;unfold zHz;rw[List.getD_eq_getElem?_getD (l:=m.zC),hg];simp only[Option.getD_some]
 omega
theorem outsF_ok {s:xO} (h:xW s):xTz s.zH.zC.length (s.zB+zHz s.zH).toNat (outsF s):=(wAz h _ _ zJ).2
theorem vJz {s:xO} :(mixF s).length=s.zB.toNat:=uZz _ _ _
def readyF (m:vF):List Int:=m.zC.mapIdx fun i x=>(wK m).getD i 0+x.zZ
theorem length_readyF (m:vF):(readyF m).length=m.zC.length:=by simp[readyF]
theorem ready_at {m:vF} {k:Nat} {x:xP} (hx:m.zC[k]?=some x):(readyF m)[k]?=some ((wK m).getD k 0+x.zZ):=by
 unfold readyF;rw[List.getElem?_mapIdx,hx];rfl
theorem ready_last {m:vF} (h:zSz m):(readyF m)[m.zC.length - 1]?=some (zHz m):=by
 have hn:=h.some_;have hg:=gE (show m.zC.length - 1<m.zC.length by omega);rw[ready_at hg];unfold zHz;rw[List.getD_eq_getElem?_getD (l:=m.zC),hg]
 rfl
end
section
open Go.RowKit
theorem ows_rows {w:World} {E:TypeId} : ∀ (rows:List (List Int)) (G:List Nat) (es:List Value),T.ows w (rows.map (T.ints E)) G es→ ∀ (i:Nat) (l:List Int),rows[i]?=some l→ ∃ u:Value,es[i]?=some u∧OwI E w 0 u l∧ ∀ k,u.ownBlock=some k→k ∈ G
 | [],_,_,_,i,l,hl=>by simp at hl
 |l0 :: rows,G,es,h,i,l,hl=>by
  rw[List.map_cons] at h;simp only[T.ows] at h;obtain⟨F1,F2,c1,c2,rfl,rfl,h1,h2⟩:=h;obtain⟨u,rfl⟩:=T.rd_one (T.ow_rd _ _ _ h1)
  cases i with
  |zero=>
   injection hl with hl;subst hl;obtain⟨h3,h4⟩:=T.ow_ints.1 h1;exact⟨u,rfl,h3,fun k hk=>by rw[h4,hk];simp⟩
  |succ i=>
   obtain⟨u',h3,h4,h5⟩:=ows_rows rows F2 c2 h2 i l hl;exact⟨u',h3,h4,fun k hk=>List.mem_append_right _ (h5 k hk)⟩
theorem own_base {E:TypeId} {w:World} {B:Nat} {v:Value} {xs:List Int} (h:OwI E w 0 v xs) (hb: ∀ k,v.ownBlock=some k→B≤k):OwI E w B v xs:=by
 refine⟨h.1,?_⟩
 rcases h.2 with hn|⟨g,cap,cur,rfl,_,rest⟩
 ·exact .inl hn
 ·exact .inr ⟨g,cap,cur,rfl,hb g rfl,rest⟩
theorem Own.rows {B:Nat} {w:World} {t E:TypeId} {rows:List (List Int)} {F:List Nat} {v:Value} (h:Own B w (T.sl t 1 (rows.map (T.ints E))) F v) (hn:0<rows.length):
  ∃ (bc cap:Nat) (cs:Array Value),v= .slice (some ⟨bc,0,none⟩) rows.length cap∧rows.length≤cap∧B≤bc∧Bk w bc t cs∧ ∀ (i:Nat) (l:List Int),rows[i]?=some l→ ∃ u:Value,cs[i]?=some u∧OwI E w B u l∧u.ownBlock≠some bc∧ ∀ k,u.ownBlock=some k→B≤k∧k<w.heap.size:=by
 have hlo:=h.lo;have hnd:=h.nodup;have hlt:=h.lt;have how:=h.ow;simp only[T.ow] at how;obtain⟨v',es,G,hv,rfl,_,h1,h2⟩:=how;injection hv with hv;subst hv;obtain⟨hl,h1⟩:=h1
 rcases h1 with ⟨_,h0⟩|⟨g,cap,cur,rfl,_,hg,hcap,_,_,htk⟩
 ·rw[List.length_map] at h0;omega
 rw[List.length_map] at *;rw[Nat.mul_one] at *;refine⟨g,cap,cur,rfl,hcap,hlo g (by simp[Value.ownBlock]),hg,fun i l hi=>?_⟩;obtain⟨u,h3,h4,h5⟩:=ows_rows rows G es h2 i l hi;have hil:i<rows.length:=(List.getElem?_eq_some_iff.1 hi).1;refine⟨u,?_,own_base h4 fun k hk=>hlo k (List.mem_append_right _ (h5 k hk)),fun e=>?_,fun k hk=>⟨hlo k (List.mem_append_right _ (h5 k hk)),hlt k (List.mem_append_right _ (h5 k hk))⟩⟩
 ·rw[←htk,List.getElem?_take_of_lt hil] at h3
  rw[←Array.getElem?_toList];exact h3
 ·rw[List.nodup_append] at hnd
  exact hnd.2.2 g (by simp[Value.ownBlock]) g (h5 g e) rfl
theorem startL_eq (x:xR):vI x=wW x:=rfl
end
section
open Go.RowKit
theorem own_grown {E:TypeId} {w w':World} {B:Nat} {row:Option Nat} {v:Value} {xs:List Int} (h:OwI E w B v xs) (hg:w.grownBy w' row) (hd: ∀ g,v.ownBlock=some g→row≠some g):OwI E w' B v xs:=
 yBz (fun b hb=>hg.block b (h.lt b hb).2 (fun e=>hd b hb e.symm)) h
theorem Own.grown {B:Nat} {w w':World} {x:T} {F:List Nat} {v:Value} {row:Option Nat} (h:Own B w x F v) (hg:w.grownBy w' row) (hd: ∀ g ∈ F,row≠some g):Own B w' x F v:=
 ⟨T.ow_keep _ _ _ (fun b hb=>hg.block b (h.lt b hb) (fun e=>hd b hb e.symm)) h.ow,h.nodup,h.lo⟩
structure StM (w3 wr:World) (bi:Nat) (A F:List Nat) (cs:Array Value) (ins outs:List (List Int)) (vo vr:Value) (rdy:List Int):Prop where
 bel:Below w3.heap.size w3 wr
 lo:w3.heap.size≤bi
 cel:Cel wr bi A 26 cs ins
 outs:Own w3.heap.size wr (T.sl 26 1 (outs.map (T.ints 2))) F vo
 rdy:OwI 2 wr w3.heap.size vr rdy
 ai:bi ∈ A
 alt: ∀ q ∈ A,q<wr.heap.size
 af: ∀ g ∈ F,g ∈ A
 ar: ∀ g,vr.ownBlock=some g→g ∈ A
 nf:bi ∉ F
 nr: ∀ g,vr.ownBlock=some g→g≠bi∧g ∉ F
section
variable {w3 w w':World} {bi:Nat} {A F:List Nat} {cs:Array Value} {ins outs:List (List Int)} {vo vr:Value} {rdy:List Int}
theorem StM.below (h:StM w3 w bi A F cs ins outs vo vr rdy) (hb:Below w.heap.size w w'):StM w3 w' bi A F cs ins outs vo vr rdy:=
 ⟨yO h.bel h.bel.size hb,h.lo,h.cel.below hb,h.outs.all hb,uM h.rdy hb,h.ai,fun q hq=>zW (h.alt q hq) hb.size,h.af,h.ar,h.nf,h.nr⟩
theorem StM.addv (h:StM w3 w bi A F cs ins outs vo vr rdy) (hb:Below w.heap.size w w') {v:Value} (hv: ∀ g,v.ownBlock=some g→w.heap.size≤g∧g<w'.heap.size):StM w3 w' bi (v.ownBlock.toList++A) F cs ins outs vo vr rdy:=
 ⟨yO h.bel h.bel.size hb,h.lo,h.cel.grow (grown_below hb none) (fun g e=>by cases e) (fun g hg=> .inr (hv g (by simpa using hg)).1),h.outs.all hb,uM h.rdy hb,List.mem_append_right _ h.ai,fun q hq=>by
  rcases List.mem_append.1 hq with hq|hq
  ·exact(hv q (by simpa using hq)).2
  ·exact zW (h.alt q hq) hb.size,fun g hg=>List.mem_append_right _ (h.af g hg),fun g hg=>List.mem_append_right _ (h.ar g hg),h.nf,h.nr⟩
theorem StM.put (h:StM w3 w bi A F cs ins outs vo vr rdy) {i:Nat} {l0 l:List Int} {v:Value} (hi:ins[i]?=some l0) (hv:RdI w v l) (hn: ∀ q ∈ A,v.ownBlock≠some q) (hl: ∀ k,v.ownBlock=some k→k<w.heap.size):StM w3 (w.setCell ⟨bi,i,none⟩ v) bi A F (cs.setIfInBounds i v) (ins.set i l) outs vo vr rdy:=
 ⟨h.bel.setCell h.lo _,h.lo,h.cel.put hi hv h.ai hn hl,h.outs.grown (zOy w bi i v) (fun g hg e=>by injection e with e;exact h.nf (by rw[e];exact hg)),own_grown h.rdy (zOy w bi i v) (fun g hg e=>by injection e with e;exact(h.nr g hg).1 e.symm),h.ai,fun q hq=>by simpa[World.setCell] using h.alt q hq,h.af,h.ar,h.nf,h.nr⟩
theorem StM.o (h:StM w3 w bi A F cs ins outs vo vr rdy) {y:List Int} {v8:Value} {F8 Fx:List Nat} (h8:Own w3.heap.size w' (T.sl 26 1 ((outs++ [y]).map (T.ints 2))) F8 v8) (hg:w.grownBy w' vo.ownBlock) (hv: ∀ b ∈ F8,b ∈ F∨b ∈ Fx∨w.heap.size≤b) (hx: ∀ b ∈ Fx,b ∈ A∧b≠bi∧vr.ownBlock≠some b):StM w3 w' bi (F8++A) F8 cs ins (outs++ [y]) v8 vr rdy:=by
 have hvo: ∀ g,vo.ownBlock=some g→g ∈ F:=fun g hg=>h.outs.mem g hg
 have hrl: ∀ g,vr.ownBlock=some g→g<w.heap.size:=fun g hg=>(h.rdy.lt g hg).2
 have hbl:=h.cel.bk.lt;refine⟨h.bel.grown hg h.bel.size (fun j hj=>h.outs.row j hj),h.lo,h.cel.grow hg (fun g e=>⟨h.af g (hvo g e),fun e2=>h.nf (by rw[e2];exact hvo g e)⟩) (fun g hg=>?_),h8,own_grown h.rdy hg (fun g hg e=>(h.nr g hg).2 (hvo g e)),List.mem_append_right _ h.ai,fun q hq=>(List.mem_append.1 hq).elim (fun hq=>h8.lt q hq) (fun hq=>zW (h.alt q hq) hg.size),fun g hg=>List.mem_append_left _ hg,fun g hg=>List.mem_append_right _ (h.ar g hg),fun hm=>?_,fun g hg=>⟨(h.nr g hg).1,fun hm=>?_⟩⟩
 ·rcases hv g hg with h1|h1|h1
  ·exact .inl (h.af g h1)
  ·exact .inl (hx g h1).1
  ·exact .inr h1
 ·rcases hv bi hm with h1|h1|h1
  ·exact h.nf h1
  ·exact(hx bi h1).2.1 rfl
  ·omega
 ·rcases hv g hm with h1|h1|h1
  ·exact(h.nr g hg).2 h1
  ·exact(hx g h1).2.2 hg
  ·have:=hrl g hg;omega
end
end
section
open Go.RowKit
theorem zDz:(Tryz.prog.info? 26).map (fun i=>(i.zero,i.size,i.bytes))=some (some (.slice none 0 0),1,24):=by kernel_rfl
theorem vM:(Tryz.prog.info? 39).map (fun i=>(i.zero,i.size,i.bytes))=some (some (.agg #[.int .i64 0,.int .i64 0,.int .i64 0,.int .i64 0,.int .i64 0]),5,40):=by kernel_rfl
theorem info_TrackS:(Tryz.prog.info? 69).map (fun i=>(i.zero,i.size,i.bytes))=some (some (.agg #[.slice none 0 0]),1,24):=by kernel_rfl
theorem vDz:(Tryz.prog.info? 120).map (fun i=>(i.zero,i.size,i.bytes))=some (some (.agg #[.int .i64 0,.int .i64 0,.int .i64 0,.slice none 0 0]),4,48):=by kernel_rfl
theorem info_PatchS:(Tryz.prog.info? 81).map (fun i=>(i.zero,i.size,i.bytes))=some (some (.agg #[.int .i64 0,.slice none 0 0,.slice none 0 0,.slice none 0 0]),4,80):=by kernel_rfl
theorem uNz:(Tryz.prog.info? 71).map (fun i=>(i.zero,i.size,i.bytes))=some (some (.agg #[.int .i64 0,.int .i64 0]),2,16):=by kernel_rfl
theorem wPz:(Tryz.prog.info? 74).map (fun i=>(i.zero,i.size,i.bytes))=some (some (.agg #[.string ByteArray.empty,.int .i64 0,.slice none 0 0]),3,48):=by kernel_rfl
end
section
open Go.RowKit
theorem own_new (w:World) (E:TypeId) (sz:Nat):Own w.heap.size (w.alloc (.cells #[] E)) (.sl E sz []) [w.heap.size] (.slice (some ⟨w.heap.size,0,none⟩) 0 0):=Own.born (v:= .slice (some ⟨w.heap.size,0,none⟩) 0 0) (World.ownsRow_made w #[] 0 zJ (by decide) (by simp))
theorem Own.src {B g:Nat} {w w':World} {x:T} {F:List Nat} {v:Value} (h:Own B w x F v) (hg:g<B) (k:Trn [g] w w'):Own B w' x F v:=
 h.trn k (fun b hb hm=>by simp at hm;have:=h.lo b hb;omega)
theorem smp_app {l:List Int} {y:Int} (h: ∀ z ∈ l,Smp z) (hy:Smp y): ∀ z ∈ l++ [y],Smp z:=fun z hz=>by
 rcases List.mem_append.1 hz with e|e
 ·exact h z e
 ·simp at e;subst e;exact hy
theorem x_l03Draw {w:World} {g a:Nat} {cv:Value} {bs:List UInt8} {most:Int} (h:Sx w w g cv bs a) (ha:a≤1070000000) (hm:0≤most∧most≤4000):Calls Tryz.prog 76 #[.pointer (some ⟨g,0,none⟩),.int .i64 most] w fun e w'=> ∃ (v:Value) (xs:List Int) (a2:Nat),e= .returned v∧OwI 2 w' w.heap.size v xs∧(∀ y ∈ xs,Smp y)∧(xs.length:Int)≤most∧a2≤a+2+10 * most.toNat∧Sx w w' g cv bs a2:=by
 have H:=xN h;have HGL:=xN h.gin;clear h;have hw:IntKind.i64.wrap (most+1)=most+1:=IntWalk.i64_in _ zM;have HN:=xN (vP w)
 go_enter Tryz.func76,Tryz.ntmps76
 go_wp2_with fail
 refine(wS (H.o.alloc _) zM zM).mono ?_;rintro e w1 ⟨K,a1,rfl,hK,ha1,hs⟩;have HO1:=xN (Sx.ints HN.o HGL.o hs.trn);have HS1:=xN ((H.o.alloc _).next hs);clear hs HN;obtain⟨k0,rfl⟩: ∃ q:Nat,K=(q:Int):=⟨K.toNat,by omega⟩;have hk0:(k0:Int)≤most:=by omega
 clear hw hK;go_wp2
 go_loopw [5,6] (fun o kk wr=> ∃ (k c:Nat) (out:List Int),k≤k0∧kk= .int .i64 (k:Int)∧(∀ y ∈ out,Smp y)∧out.length+k=k0∧c≤a1+10 * (k0 - k)∧Sx w wr g cv bs c∧OwI 2 wr w.heap.size o out) (fun _ kk _=>(intOf kk).toNat)
 case atStart=>exact⟨k0,a1,[],zJ,rfl,by simp,by simp,by omega,HS1.o,HO1.o⟩
 case round=>
  obtain⟨k,c,out,hkK,rfl,hos,hol,hc,hs,ho⟩:=hrel;have HS:=xN hs;have HO:=xN ho;have HOS:=xN hos;have hsz:w.heap.size≤wr.heap.size:=hs.size;clear hs ho hos;by_cases hk:0<k
  ·
   have hal:out.length+1≤17592186044416:=by omega
   go_wp2_with fail
   refine(yIz HS.o zM).mono ?_;rintro e w4 ⟨y,c2,rfl,hy,hc2,hs⟩;have HO4:=xN (Sx.ints HO.o HGL.o hs.trn);have HS4:=xN (HS.o.next hs);have hs4z:w.heap.size≤w4.heap.size:=Nat.le_trans hsz hs.size;clear hs;have HOS2:=xN (smp_app HOS.o hy);go_wp2_with (at_builtin;refine yGz (n:=y) rfl _ _ rfl rfl HO4.o rfl hal hs4z ?_;intro v5 w5 ho5 hg5 hv5;have HO5:=xN ho5;have HS5:=xN (HS4.o.grown hg5 (fun b e=>(HO4.o.lt b e).1));clear ho5 hg5 hv5)
   go_roundw
   case rel=>exact⟨k - 1,c2,out++ [y],by omega,by go_num,HOS2.o,by rw[List.length_append];simp;omega,by omega,HS5.o,HO5.o⟩
   case measure=>first|(simp[intOf];done)|(simp[intOf];omega)
  obtain rfl:k=0:=by omega
  go_wp2;go_ret
  exact⟨_,out,c,rfl,HO.o,HOS.o,by omega,by omega,HS.o⟩
def TabL (l:List Int):Prop:=(l.length=2∨l.length=4∨l.length=8)∧ ∀ y ∈ l,Smp y
theorem x_l06DrawTables {w:World} {g a:Nat} {cv:Value} {bs:List UInt8} (h:Sx w w g cv bs a) (ha:a≤1070000000):Calls Tryz.prog 118 #[.pointer (some ⟨g,0,none⟩)] w fun e w'=> ∃ (v:Value) (xs:List (List Int)) (F:List Nat) (a2:Nat),e= .returned v∧Own w.heap.size w' (T.sl 26 1 (xs.map (T.ints 2))) F v∧(∀ l ∈ xs,TabL l)∧1≤xs.length∧xs.length≤2∧a2≤a+200∧Sx w w' g cv bs a2:=by
 have H:=xN h;have HGL:=xN h.gin;clear h;have HN:=xN (own_new w 26 1)
 go_enter Tryz.func118,Tryz.ntmps118
 go_wp2_with fail
 refine(wS (H.o.alloc _) zM zM).mono ?_;rintro e w1 ⟨K,a1,rfl,hK,ha1,hs⟩;have HO1:=xN (HN.o.src HGL.o hs.trn);have HS1:=xN ((H.o.alloc _).next hs);clear hs HN;obtain⟨k0,hk0,hk2⟩: ∃ q:Nat,1+K=(q:Int)∧q≤2:=⟨(1+K).toNat,by omega,by omega⟩;have hk1:1≤k0:=by omega
 have hw:IntKind.i64.wrap (1+K)=(k0:Int):=by rw[hk0];exact IntWalk.i64_in _ zM
 clear hK hk0;go_wp2;clear hw
 go_loopw [3,4] (fun o kk wr=> ∃ (k c:Nat) (out:List (List Int)) (F:List Nat),k≤k0∧kk= .int .i64 (k:Int)∧(∀ l ∈ out,TabL l)∧out.length+k=k0∧c≤a1+90 * (k0 - k)∧Sx w wr g cv bs c∧Own w.heap.size wr (T.sl 26 1 (out.map (T.ints 2))) F o) (fun _ kk _=>(intOf kk).toNat)
 case atStart=>exact⟨k0,a1,[],_,zJ,rfl,by simp,by simp,by omega,HS1.o,HO1.o⟩
 case round=>
  obtain⟨k,c,out,F,hkK,rfl,hos,hol,hc,hs,ho⟩:=hrel;have HS:=xN hs;have HO:=xN ho;have HOS:=xN hos;have hsz:w.heap.size≤wr.heap.size:=hs.size;clear hs ho hos;by_cases hk:0<k
  ·
   obtain⟨wq,rfl⟩: ∃ q,q=wr:=⟨_,rfl⟩;have hszA:(wq.alloc (.cells #[] 2)).heap.size=wq.heap.size+1:=by simp
   have hli:=OwI.rd (show OwI 2 ((wq.alloc (.cells #[] 2)).alloc (.cells #[.int .i64 2,.int .i64 4,.int .i64 8,.int .i64 4] 2)) (wq.alloc (.cells #[] 2)).heap.size (.slice (some ⟨(wq.alloc (.cells #[] 2)).heap.size,0,none⟩) 4 4) [2,4,8,4] from World.ownsRow_lit (base:=(wq.alloc (.cells #[] 2)).heap.size) (e:=2) (size:=1) (wq.alloc (.cells #[] 2)) #[.int .i64 2,.int .i64 4,.int .i64 8,.int .i64 4] 4 zJ (by decide) rfl);rw[hszA] at hli;have HLI:=xN hli;clear hli hszA;have HB2:=xN (((Below.refl wq.heap.size wq).alloc zJ (.cells #[] 2)).alloc (by simp) (.cells #[.int .i64 2,.int .i64 4,.int .i64 8,.int .i64 4] 2));have HT2:=xN (show OwI 2 ((wq.alloc (.cells #[] 2)).alloc (.cells #[.int .i64 2,.int .i64 4,.int .i64 8,.int .i64 4] 2)) wq.heap.size (.slice (some ⟨wq.heap.size,0,none⟩) 0 0) [] from uM (vP wq) (zR.alloc zJ _));have HO2:=xN (HO.o.all HB2.o);have HS2:=xN (HS.o.below HB2.o);go_wp2_with fail
   refine(uP HS2.o zM HLI.o (by decide) (fun b e=>by injection e with e;have:=HGL.o;simp at e;omega)).mono ?_;rintro e w3 ⟨M,c1,rfl,hM,hc1,hs⟩;have hM2:M=2∨M=4∨M=8:=(by simp at hM;omega);obtain⟨m0,rfl⟩: ∃ q:Nat,M=(q:Int):=⟨M.toNat,by omega⟩;have hm0:m0=2∨m0=4∨m0=8:=by omega
   have hqg:g<wq.heap.size:=(by have:=HGL.o;omega);have HT3:=xN (Sx.ints HT2.o hqg hs.trn);have HO3:=xN (HO2.o.src HGL.o hs.trn);have HS3:=xN (HS2.o.next hs);have hq3:wq.heap.size≤w3.heap.size:=Nat.le_trans HB2.o.size hs.size;clear hs hM hM2 HB2 HLI;have HFL:=xN HO.o.lt;go_wp2
   go_loopw [5,6] (fun o2 mm wr=> ∃ (m c2:Nat) (t:List Int),m≤m0∧mm= .int .i64 (m:Int)∧(∀ y ∈ t,Smp y)∧t.length+m=m0∧c2≤c1+10 * (m0 - m)∧Sx w wr g cv bs c2∧OwI 2 wr wq.heap.size o2 t∧Own w.heap.size wr (T.sl 26 1 (out.map (T.ints 2))) F u3∧wq.heap.size≤wr.heap.size) (fun _ mm _=>(intOf mm).toNat)
   case atStart=>exact⟨m0,c1,[],zJ,rfl,by simp,by simp,by omega,HS3.o,HT3.o,HO3.o,hq3⟩
   case round=>
    obtain⟨m,c2,tt,hmK,rfl,hts,htl,hc2,hs,ht,ho,hszi⟩:=hrel;have HSi:=xN hs;have HTi:=xN ht;have HOi:=xN ho;have HTS:=xN hts;clear hs ht ho hts;by_cases hm:0<m
    ·
     have hal:tt.length+1≤17592186044416:=by omega
     go_wp2_with fail
     refine(yIz HSi.o zM).mono ?_;rintro e w4 ⟨y,c3,rfl,hy,hc3,hs⟩;have HT4:=xN (Sx.ints HTi.o hqg hs.trn);have HO4:=xN (HOi.o.src HGL.o hs.trn);have HS4:=xN (HSi.o.next hs);have hs4z:wq.heap.size≤w4.heap.size:=Nat.le_trans hszi hs.size;clear hs;have HTS2:=xN (smp_app HTS.o hy);go_wp2_with (at_builtin;refine yGz (n:=y) rfl _ _ rfl rfl HT4.o rfl hal hs4z ?_;intro v5 w5 ho5 hg5 hv5;have HT5:=xN ho5;have HS5:=xN (HS4.o.grown hg5 (fun b e=>by have:=(HT4.o.lt b e).1;omega));have HO5:=xN (HO4.o.grown hg5 (fun q hq e=>by have h1:=(HT4.o.lt q e).1;have h2:=HFL.o q hq;omega));have hz5:=hg5.size;clear ho5 hg5 hv5)
     go_roundw
     case rel=>exact⟨m - 1,c3,tt++ [y],by omega,by go_num,HTS2.o,by rw[List.length_append];simp;omega,by omega,HS5.o,HT5.o,HO5.o,Nat.le_trans hs4z hz5⟩
     case measure=>first|(simp[intOf];done)|(simp[intOf];omega)
    obtain rfl:m=0:=by omega
    obtain⟨tA,tL,tC,rfl⟩:=T.xE (T.ow_ints.2 ⟨HTi.o.more (Nat.zero_le _),rfl⟩);obtain⟨oA,oL,oC,rfl⟩:=T.xE HOi.o.ow;have HNo:=xN (show T.ow wr (T.ints 2 tt) (Value.slice tA tL tC).ownBlock.toList [.slice tA tL tC] from T.ow_ints.2 ⟨HTi.o.more (Nat.zero_le _),rfl⟩);have hnd:(Value.slice tA tL tC).ownBlock.toList.Nodup:=by cases (Value.slice tA tL tC).ownBlock<;>simp
    have hoz:out.length≤2:=by omega
    have hwz:w.heap.size≤wr.heap.size:=Nat.le_trans hsz hszi;have HTB:=xN (show TabL tt from⟨by omega,HTS.o⟩);go_wp2_with (at_builtin;refine yJz rfl _ _ _ rfl w.heap.size 26 _ 1 24 Tryz.underlying24 zDz rfl zM rfl HOi.o HNo.o hnd (fun b hb=>by have h:=(HTi.o.lt b (by simpa using hb)).1;omega) (fun b hb hb2=>by have h:=(HTi.o.lt b (by simpa using hb2)).1;have h2:=HFL.o b hb;omega) rfl rfl (by rw[List.length_map];omega) (by rw[List.length_map];omega) hwz ?_;intro v8 w8 F8 ho8 hg8 hv8;have HO8:=xN ho8;have HS8:=xN (HSi.o.grown hg8 (fun b e=>HOi.o.row b e));clear ho8 hg8 hv8)
    go_roundw
    case rel=>exact⟨k - 1,c2,out++ [tt],F8,by omega,by go_num,(fun l hl=>by rcases List.mem_append.1 hl with e|e;(· exact HOS.o l e);(· simp at e;subst e;exact HTB.o)),by rw[List.length_append];simp;omega,by omega,HS8.o,by have h:=HO8.o;rw[List.map_append];exact h⟩
    case measure=>first|(simp[intOf];done)|(simp[intOf];omega)
  obtain rfl:k=0:=by omega
  go_wp2;go_ret
  exact⟨_,out,F,c,rfl,HO.o,HOS.o,by omega,by omega,by omega,HS.o⟩
end
section
open Go.RowKit
end
section
open Go.RowKit
def AvOk (k A tn:Int):Prop:=(if (uF k).low≤(uF k).high then inB A (uF k).low (uF k).high=true else A=0)∧(k=13→A<tn)∧Smp A
theorem vXz {k A tn lo hi:Int} (h1:(uF k).low=lo) (h2:(uF k).high=hi) (h3:lo≤hi) (h:lo≤A∧A≤hi) (hs:Smp A) (h13:k=13→A<tn):AvOk k A tn:=by
 unfold AvOk;rw[h1,h2,if_pos h3];exact⟨xK.2 h,h13,hs⟩
theorem avOk_has {k A tn:Int} (hk:k=2∨k=5∨k=12∨k=14∨k=17) (h:Smp A):AvOk k A tn:=by
 have h': -2147483648≤A∧A≤2147483647:=by unfold Smp at h;omega
 rcases hk with rfl|rfl|rfl|rfl|rfl<;>exact vXz (lo:= -2147483648) (hi:=2147483647) rfl rfl (by decide) h' h zM
theorem avOk_no {k tn:Int} (hk:k=3∨k=4∨k=7∨k=8∨k=9∨k=15∨k=16):AvOk k 0 tn:=by
 rcases hk with rfl|rfl|rfl|rfl|rfl|rfl|rfl<;>exact⟨by decide,by omega,vCz⟩
theorem x_l06DrawA {w:World} {g a:Nat} {cv:Value} {bs:List UInt8} {k tn:Int} (h:Sx w w g cv bs a) (ha:a≤1070000000) (hk:inB k 1 17=true) (ht:k=13→1≤tn∧tn≤4):Calls Tryz.prog 147 #[.pointer (some ⟨g,0,none⟩),.int .i64 k,.int .i64 tn] w fun e w'=>NumX w g cv bs a 10 (fun A=>AvOk k A tn) e w':=by
 have H:=xN h;have HGL:=xN h.gin;have hk:=xK.1 hk;clear h;by_cases q1:k=1
 ·
  subst q1
  go_enter Tryz.func147,Tryz.ntmps147
  go_wp2_with fail
  refine(wS H.o zM zM).mono ?_;rintro e w1 ⟨x,a2,rfl,hx,ha2,hs⟩;have HS:=xN hs;clear hs;go_wp2;go_ret
  exact⟨_,a2,rfl,vXz (lo:=0) (hi:=3) rfl rfl (by decide) zM (by unfold Smp;omega) zM,by omega,HS.o⟩
 have b1:(k == 1)=false:=by simpa using q1
 by_cases q6:k=6
 ·
  subst q6
  go_enter Tryz.func147,Tryz.ntmps147
  go_wp2_with fail
  refine(wS H.o zM zM).mono ?_;rintro e w1 ⟨x,a2,rfl,hx,ha2,hs⟩;have HS:=xN hs;clear hs;have hw:IntKind.i64.wrap (1+x)=1+x:=IntWalk.i64_in _ zM;go_wp2;go_ret
  exact⟨_,a2,rfl,vXz (lo:=1) (hi:=16) rfl rfl (by decide) zM (by unfold Smp;omega) zM,by omega,HS.o⟩
 have b6:(k == 6)=false:=by simpa using q6
 by_cases q10:k=10
 ·
  subst q10;have HLI:=xN (OwI.rd (show OwI 2 (w.alloc (.cells #[.int .i64 1,.int .i64 2,.int .i64 0,.int .i64 16,.int .i64 31] 2)) w.heap.size (.slice (some ⟨w.heap.size,0,none⟩) 5 5) [1,2,0,16,31] from World.ownsRow_lit (base:=w.heap.size) (e:=2) (size:=1) w #[.int .i64 1,.int .i64 2,.int .i64 0,.int .i64 16,.int .i64 31] 5 zJ (by decide) rfl));have HA:=xN (H.o.alloc (.cells #[.int .i64 1,.int .i64 2,.int .i64 0,.int .i64 16,.int .i64 31] 2))
  go_enter Tryz.func147,Tryz.ntmps147
  go_wp2_with fail
  refine(uP HA.o zM HLI.o (by decide) (fun b e=>by injection e with e;have:=HGL.o;simp at e;omega)).mono ?_;rintro e w1 ⟨x,a2,rfl,hx,ha2,hs⟩;have HS:=xN (HA.o.next hs);clear hs;have hx2:0≤x∧x≤31:=(by simp at hx;omega);clear hx;go_wp2;go_ret
  exact⟨_,a2,rfl,vXz (lo:=0) (hi:=31) rfl rfl (by decide) hx2 (by unfold Smp;omega) zM,by omega,HS.o⟩
 have b10:(k == 10)=false:=by simpa using q10
 by_cases q11:k=11
 ·
  subst q11;have HLI:=xN (OwI.rd (show OwI 2 (w.alloc (.cells #[.int .i64 10,.int .i64 0,.int .i64 100,.int .i64 2147483647] 2)) w.heap.size (.slice (some ⟨w.heap.size,0,none⟩) 4 4) [10,0,100,2147483647] from World.ownsRow_lit (base:=w.heap.size) (e:=2) (size:=1) w #[.int .i64 10,.int .i64 0,.int .i64 100,.int .i64 2147483647] 4 zJ (by decide) rfl));have HA:=xN (H.o.alloc (.cells #[.int .i64 10,.int .i64 0,.int .i64 100,.int .i64 2147483647] 2))
  go_enter Tryz.func147,Tryz.ntmps147
  go_wp2_with fail
  refine(uP HA.o zM HLI.o (by decide) (fun b e=>by injection e with e;have:=HGL.o;simp at e;omega)).mono ?_;rintro e w1 ⟨x,a2,rfl,hx,ha2,hs⟩;have HS:=xN (HA.o.next hs);clear hs;have hx2:0≤x∧x≤2147483647:=(by simp at hx;omega);clear hx;go_wp2;go_ret
  exact⟨_,a2,rfl,vXz (lo:=0) (hi:=2147483647) rfl rfl (by decide) hx2 (by unfold Smp;omega) zM,by omega,HS.o⟩
 have b11:(k == 11)=false:=by simpa using q11
 by_cases q13:k=13
 ·
  subst q13;have ht2:=ht rfl
  go_enter Tryz.func147,Tryz.ntmps147
  go_wp2_with fail
  refine(wS H.o zM zM).mono ?_;rintro e w1 ⟨x,a2,rfl,hx,ha2,hs⟩;have HS:=xN hs;clear hs;go_wp2;go_ret
  exact⟨_,a2,rfl,vXz (lo:=0) (hi:=3) rfl rfl (by decide) zM (by unfold Smp;omega) zM,by omega,HS.o⟩
 have b13:(k == 13)=false:=by simpa using q13
 by_cases qh:k ∈ ([1,2,5,6,10,11,12,13,14,17]:List Int)
 ·
  have hk5:k=2∨k=5∨k=12∨k=14∨k=17:=(by simp at qh;omega);have bh:decide (k ∈ ([1,2,5,6,10,11,12,13,14,17]:List Int))=true:=decide_eq_true qh;have HOK:=xN (fun A (h:Smp A)=>avOk_has (tn:=tn) hk5 h);clear qh hk5 ht
  go_enter Tryz.func147,Tryz.ntmps147
  go_wp2_with fail
  refine(uT k _).mono ?_;rintro e w1 ⟨rfl,hb⟩;rw[bh];have H1:=xN (H.o.below hb);clear hb bh;go_wp2_with fail
  refine(yIz H1.o zM).mono ?_;rintro e w2 ⟨x,a2,rfl,hx,ha2,hs⟩;have HS:=xN (H1.o.next hs);clear hs;go_wp2;go_ret
  exact⟨_,a2,rfl,HOK.o _ hx,by omega,HS.o⟩
 have hk7:k=3∨k=4∨k=7∨k=8∨k=9∨k=15∨k=16:=(by simp at qh;omega);have bh:decide (k ∈ ([1,2,5,6,10,11,12,13,14,17]:List Int))=false:=decide_eq_false qh;have HOK:=xN (avOk_no (tn:=tn) hk7);clear qh hk7 ht
 go_enter Tryz.func147,Tryz.ntmps147
 go_wp2_with fail
 refine(uT k _).mono ?_;rintro e w1 ⟨rfl,hb⟩;rw[bh];have H1:=xN (H.o.below hb);clear hb bh;go_wp2;go_ret
 exact⟨_,a,rfl,HOK.o,by omega,H1.o⟩
structure DrN (k tn below:Int) (x:xR):Prop where
 kind:x.zD=k
 a:AvOk k x.fA tn
 b:if (uF k).hasB then 1≤x.fB∧x.fB≤3 else x.fB=0
 arity:(x.zO.length:Int)=(uF k).inputs
 from_: ∀ f ∈ x.zO,0≤f∧(f<below∨f=0)
theorem knd_inputs {k:Int} (h:1≤k∧k≤17):0≤(uF k).inputs∧(uF k).inputs≤3:=by
 have:k=1∨k=2∨k=3∨k=4∨k=5∨k=6∨k=7∨k=8∨k=9∨k=10∨k=11∨k=12∨k=13∨k=14∨k=15∨k=16∨k=17:=by omega
 rcases this with rfl|rfl|rfl|rfl|rfl|rfl|rfl|rfl|rfl|rfl|rfl|rfl|rfl|rfl|rfl|rfl|rfl<;>decide
theorem knd_hasB {k:Int} (h:1≤k∧k≤17):(uF k).hasB=decide (k=17):=by
 have:k=1∨k=2∨k=3∨k=4∨k=5∨k=6∨k=7∨k=8∨k=9∨k=10∨k=11∨k=12∨k=13∨k=14∨k=15∨k=16∨k=17:=by omega
 rcases this with rfl|rfl|rfl|rfl|rfl|rfl|rfl|rfl|rfl|rfl|rfl|rfl|rfl|rfl|rfl|rfl|rfl<;>decide
theorem x_l06Draw {w:World} {g a:Nat} {cv:Value} {bs:List UInt8} {k tn below:Int} (h:Sx w w g cv bs a) (ha:a≤1070000000) (hk:inB k 1 17=true) (ht:k=13→1≤tn∧tn≤4) (hb:below≤60000):Calls Tryz.prog 121 #[.pointer (some ⟨g,0,none⟩),.int .i64 k,.int .i64 tn,.int .i64 below] w fun e w'=> ∃ (A B:Int) (fr:List Int) (sA:Option Addr) (sL sC a2:Nat),e= .returned (.agg #[.int .i64 k,.int .i64 A,.int .i64 B,.slice sA sL sC])∧OwI 2 w' w.heap.size (.slice sA sL sC) fr∧DrN k tn below ⟨k,A,B,fr⟩∧a2≤a+20∧Sx w w' g cv bs a2:=by
 have H:=xN h;have HGL:=xN h.gin;have HK:=xN hk;have hk:=xK.1 hk;have HT:=xN ht;clear h ht;have HR:=xN (Bk.born w 120 #[.int .i64 0,.int .i64 0,.int .i64 0,.slice none 0 0]);have H0:=xN (H.o.alloc (.cells #[.int .i64 0,.int .i64 0,.int .i64 0,.slice none 0 0] 120));generalize hW:(w.alloc (.cells #[.int .i64 0,.int .i64 0,.int .i64 0,.slice none 0 0] 120))=W0 at *;have HW:=xN hW;have hzW:w.heap.size<W0.heap.size:=HR.o.lt;clear hW
 go_enter Tryz.func121,Tryz.ntmps121
 go_wp2_with fail
 rw[HW.o];refine(x_l06DrawA H0.o.base zM HK.o HT.o).mono ?_;rintro e w1 ⟨A,a1,rfl,hA,ha1,hs⟩;have HS1:=xN (H0.o.next hs);have HR1:=xN (HR.o.trn hs.trn (by simp;have:=HGL.o;omega));have hz1:=hs.size;clear hs HR;have HF:=xN (show OwI 2 ((w1.alloc (.cells #[] 2)).alloc (.cells #[.int .i64 k,.int .i64 A,.int .i64 0,.slice (some ⟨w1.heap.size,0,none⟩) 0 0] 120)) w1.heap.size (.slice (some ⟨w1.heap.size,0,none⟩) 0 0) [] from uM (vP w1) (zR.alloc zJ _));have HB2:=xN (((Below.refl w1.heap.size w1).alloc zJ (.cells #[] 2)).alloc (by simp) (.cells #[.int .i64 k,.int .i64 A,.int .i64 0,.slice (some ⟨w1.heap.size,0,none⟩) 0 0] 120));have HS2:=xN (HS1.o.below HB2.o);have HR2:=xN (HR1.o.below HB2.o HR1.o.lt);have HX2:Sec (Bk _ (w1.heap.size+1) 120 #[.int .i64 k,.int .i64 A,.int .i64 0,.slice (some ⟨w1.heap.size,0,none⟩) 0 0]):=xN (Bk.born1' w1 (.cells #[] 2) 120 #[.int .i64 k,.int .i64 A,.int .i64 0,.slice (some ⟨w1.heap.size,0,none⟩) 0 0]);generalize hW2:((w1.alloc (.cells #[] 2)).alloc (.cells #[.int .i64 k,.int .i64 A,.int .i64 0,.slice (some ⟨w1.heap.size,0,none⟩) 0 0] 120))=W2 at *;have HW2:=xN hW2;have hz2:w1.heap.size+1<W2.heap.size:=HX2.o.lt;clear hW2;go_wp2_with fail
 rw[HW2.o];refine(uFz k HK.o _).mono ?_;rintro e w3 ⟨rfl,hb3⟩;have HS3:=xN (HS2.o.below hb3);have HR3:=xN (HR2.o.below hb3 HR2.o.lt);have HX3:=xN (HX2.o.below hb3 HX2.o.lt);have HF3:=xN (uM HF.o hb3);have hz3:=hb3.size;clear hb3 HF HB2 HS2 HR2 HX2;have hin:=knd_inputs hk;obtain⟨m0,hm0⟩: ∃ q:Nat,(uF k).inputs=(q:Int):=⟨(uF k).inputs.toNat,by omega⟩;rw[hm0];have HM0:=xN hm0;have hm3:m0≤3:=by omega
 clear hm0 hin;have kX:=HX3.o.cell;have mX:=HX3.o.lt;have fX:=HX3.o.free;have kR:=HR3.o.cell;have mR:=HR3.o.lt;have fR:=HR3.o.free;go_wp2;clear kX mX fX kR mR fR
 go_loopw [10] (fun mm wr=> ∃ (m c:Nat) (fr:List Int) (tA:Option Addr) (tL tC:Nat),m≤m0∧mm= .int .i64 (m:Int)∧(∀ f ∈ fr,0≤f∧(f<below∨f=0))∧fr.length+m=m0∧c≤a1+2 * (m0 - m)∧Sx w wr g cv bs c∧OwI 2 wr w1.heap.size (.slice tA tL tC) fr∧Bk wr (w1.heap.size+1) 120 #[.int .i64 k,.int .i64 A,.int .i64 0,.slice tA tL tC]∧(∀ b,(Value.slice tA tL tC).ownBlock=some b→b≠w1.heap.size+1)∧Bk wr w.heap.size 120 #[.int .i64 0,.int .i64 0,.int .i64 0,.slice none 0 0]∧w3.heap.size≤wr.heap.size) (fun mm _=>(intOf mm).toNat)
 case atStart=>exact⟨m0,a1,[],_,_,_,zJ,rfl,by simp,by simp,by omega,HS3.o,HF3.o,HX3.o,(fun b e=>by simp[Value.ownBlock] at e;omega),HR3.o,zJ⟩
 case round=>
  obtain⟨m,c,fr,tA,tL,tC,hmK,rfl,hfr,hfl,hc,hs,hf,hx,hd,hr,hz⟩:=hrel;have HS:=xN hs;have HF:=xN hf;have HX:=xN hx;have HD:=xN hd;have HR:=xN hr;have HFR:=xN hfr;clear hs hf hx hd hr hfr;have kX:=HX.o.cell;have mX:=HX.o.lt;have fX:=HX.o.free;have kR:=HR.o.cell;have mR:=HR.o.lt;have fR:=HR.o.free;by_cases hm:0<m
  rotate_left
  ·
   obtain rfl:m=0:=by omega
   have HBK:=xN (knd_hasB hk);by_cases q17:k=17
   ·
    subst q17;go_wp2_with fail
    refine(wS HS.o zM zM).mono ?_;rintro e w4 ⟨x,a2,rfl,hx,ha2,hs⟩;have hg1:w1.heap.size+1 ∉ [g]:=(by simp;have:=HGL.o;omega);have hg2:w.heap.size ∉ [g]:=(by simp;have:=HGL.o;omega);have HS4:=xN (HS.o.next hs);have HF4:=xN (Sx.ints HF.o (by have:=HGL.o;omega) hs.trn);have HX4:=xN (HX.o.trn hs.trn hg1);have HR4:=xN (HR.o.trn hs.trn hg2);clear hs hg1 hg2 kX mX fX kR mR fR;have hw:IntKind.i64.wrap (1+x)=1+x:=IntWalk.i64_in _ zM;have kX:=HX4.o.cell;have mX:=HX4.o.lt;have fX:=HX4.o.free;have kR:=HR4.o.cell;have mR:=HR4.o.lt;have fR:=HR4.o.free;go_wp2;refine bodyPost_ret (v:= .agg #[.int .i64 17,.int .i64 A,.int .i64 (1+x),.slice tA tL tC]) (by simp[results,Tryz.results121,go_sem,kR,fR,mR]) rfl ?_;exact⟨A,1+x,fr,tA,tL,tC,a2,rfl,(OwI.far (OwI.far (OwI.far (OwI.far (HF4.o.more zM |>.far (p:=⟨w1.heap.size+1,2,none⟩) (fun b e=>HD.o b e) _) (p:=⟨w.heap.size,0,none⟩) (fun b e=>by have h1:=(HF4.o.lt b e).1;show b≠w.heap.size;omega) _) (p:=⟨w.heap.size,1,none⟩) (fun b e=>by have h1:=(HF4.o.lt b e).1;show b≠w.heap.size;omega) _) (p:=⟨w.heap.size,2,none⟩) (fun b e=>by have h1:=(HF4.o.lt b e).1;show b≠w.heap.size;omega) _) (p:=⟨w.heap.size,3,none⟩) (fun b e=>by have h1:=(HF4.o.lt b e).1;show b≠w.heap.size;omega) _),⟨rfl,hA,by rw[HBK.o];simp;omega,by show (fr.length:Int)=_;rw[HM0.o];omega,HFR.o⟩,by omega,(((((HS4.o.set_ zM _ _).set_ zJ _ _).set_ zJ _ _).set_ zJ _ _).set_ zJ _ _)⟩
   have b17:(k == 17)=false:=by simpa using q17
   go_wp2;refine bodyPost_ret (v:= .agg #[.int .i64 k,.int .i64 A,.int .i64 0,.slice tA tL tC]) (by simp[results,Tryz.results121,go_sem,kR,fR,mR]) rfl ?_;exact⟨A,0,fr,tA,tL,tC,c,rfl,(OwI.far (OwI.far (OwI.far (OwI.far (HF.o.more zM) (p:=⟨w.heap.size,0,none⟩) (fun b e=>by have h1:=(HF.o.lt b e).1;show b≠w.heap.size;omega) _) (p:=⟨w.heap.size,1,none⟩) (fun b e=>by have h1:=(HF.o.lt b e).1;show b≠w.heap.size;omega) _) (p:=⟨w.heap.size,2,none⟩) (fun b e=>by have h1:=(HF.o.lt b e).1;show b≠w.heap.size;omega) _) (p:=⟨w.heap.size,3,none⟩) (fun b e=>by have h1:=(HF.o.lt b e).1;show b≠w.heap.size;omega) _),⟨rfl,hA,by rw[HBK.o];simp[q17],by show (fr.length:Int)=_;rw[HM0.o];omega,HFR.o⟩,by omega,((((HS.o.set_ zJ _ _).set_ zJ _ _).set_ zJ _ _).set_ zJ _ _)⟩
  have hgl:=HGL.o;have hg1:w1.heap.size+1 ∉ [g]:=(by simp;omega);have hg2:w.heap.size ∉ [g]:=(by simp;omega);go_wp2;clear kX mX fX kR mR fR;have hdr:=(Below.refl wr.heap.size wr).drew;have HSd:=xN (HS.o.drew);have HXd:=xN (HX.o.below hdr HX.o.lt);have HFd:=xN (show OwI 2 wr.drew w1.heap.size (.slice tA tL tC) fr from uM HF.o hdr);have HRd:=xN (HR.o.below hdr HR.o.lt);have hzd:w3.heap.size≤wr.drew.heap.size:=hz;clear hdr;refine wG (fun w'=>(∀ i,w'.cell? ⟨w1.heap.size+1,i,none⟩= #[.int .i64 k,.int .i64 A,.int .i64 0,.slice tA tL tC][i]?)) [7,8] (by kernel_rfl) ?_ (fun hS0=>?_)
  ·exact HXd.o.cell
  generalize hwd:wr.drew=we at *;clear hwd;refine zN 0 hS0 ?_;refine zN 1 hS0 ?_;refine zN 2 hS0 ?_;refine zN 3 hS0 ?_;refine pN 4 (fun K hK=>?_);go_simp;go_wp2_with (go_at_call 18;refine(wS HSd.o zM hb).mono ?_;rintro e w4 ⟨x,c2,rfl,hx,hc2,hs⟩)
  have HS4:=xN (HSd.o.next hs);have HF4:=xN (Sx.ints HFd.o zM hs.trn);have HX4:=xN (HXd.o.trn hs.trn hg1);have HR4:=xN (HRd.o.trn hs.trn hg2);have hz4:w3.heap.size≤w4.heap.size:=Nat.le_trans hzd hs.size;clear hs;refine uN hK ?_ (fun hS1=>?_)
  ·exact HX4.o.cell
  clear hK K hS0;have ha5:=(show Below w4.heap.size w4 (w4.alloc (.cells #[.int .i64 x] 2)) from zR.alloc zJ _);have HL5:=xN (OwI.rd (lit1 w4 x));have HS5:=xN (HS4.o.below ha5);have HF5:=xN (show OwI 2 (w4.alloc (.cells #[.int .i64 x] 2)) w1.heap.size (.slice tA tL tC) fr from uM HF4.o ha5);have HX5:=xN (HX4.o.below ha5 HX4.o.lt);have HR5:=xN (HR4.o.below ha5 HR4.o.lt);have hz5:w3.heap.size≤(w4.alloc (.cells #[.int .i64 x] 2)).heap.size:=Nat.le_trans hz4 ha5.size;clear ha5;generalize hw5:(w4.alloc (.cells #[.int .i64 x] 2))=w5 at *;refine pN 5 (fun K hK=>?_);go_simp
  try rw[hw5]
  refine uN hK ?_ (fun hS2=>?_)
  ·exact HX5.o.cell
  clear hK K hS1;have HW5:=xN hw5;clear hw5;refine pN 6 (fun K hK=>?_);refine zFz rfl _ _ rfl rfl HF5.o (ys:= [x]) rfl HL5.o (by simp only[List.length_cons,List.length_nil];omega) zM ?_;intro v8 w8 ho8 hg8 hv8;obtain⟨t8,l8,c8,rfl⟩:=T.xE (T.ow_ints.2 ⟨ho8.more (Nat.zero_le _),rfl⟩);have HF8:=xN ho8;have HS8:=xN (HS5.o.grown hg8 (fun b e=>by have:=(HF5.o.lt b e).1;omega));have HX8:=xN (HX5.o.grown hg8 (fun e=>HD.o _ e.symm rfl));have HR8:=xN (HR5.o.grown hg8 (fun e=>by have:=(HF5.o.lt _ e.symm).1;omega));have hz8:w3.heap.size≤w8.heap.size:=Nat.le_trans hz5 hg8.size;have HD8:=xN (fun b (e:(Value.slice t8 l8 c8).ownBlock=some b)=>(show b≠w1.heap.size+1 from by rcases hv8 b e with h1|h1;(· exact HD.o b h1);(· have:=HX5.o.lt;omega)));clear ho8 hg8 hv8;refine uN hK ?_ (fun hS3=>?_)
  ·exact HX8.o.cell
  clear hK K hS2;refine q2N 7 8 ?_;have kX:=HX8.o.cell;have mX:=HX8.o.lt;have fX:=HX8.o.free;have HFR2:=xN (show ∀ f ∈ fr++ [x],0≤f∧(f<below∨f=0) from fun f hf=>by rcases List.mem_append.1 hf with h1|h1;(· exact HFR.o f h1);(· simp at h1;subst h1;exact hx));go_wp2
  go_roundw
  case rel=>exact⟨m - 1,c2,fr++ [x],t8,l8,c8,by omega,by go_num,HFR2.o,by rw[List.length_append];simp;omega,by omega,HS8.o.set_ zM _ _,OwI.far HF8.o (p:=⟨w1.heap.size+1,3,none⟩) (fun b e=>HD8.o b e) _,(by have:=HX8.o.set_ 3 (.slice t8 l8 c8);simpa using this),HD8.o,HR8.o.far (p:=⟨w1.heap.size+1,3,none⟩) (by show w.heap.size≠w1.heap.size+1;omega) _,by simpa[World.setCell] using hz8⟩
  case measure=>first|(simp[intOf];done)|(simp[intOf];omega)
end
section
open Go.RowKit
theorem FM.intset {B:Nat} {w:World} {L:List Item} {E:TypeId} {gx n cap:Nat} {xs:List Int} (h:FM B w L) (i:Nat) (hi:L[i]?=some (Item.ints E (.slice (some ⟨gx,0,none⟩) n cap) xs)) (hB:B≤w.heap.size) (j:Nat) (y:Int):FM B (w.setCell ⟨gx,j,none⟩ (.int .i64 y)) (L.set i (Item.ints E (.slice (some ⟨gx,0,none⟩) n cap) (xs.set j y))):=
 h.vE (it:=Item.ints E (.slice (some ⟨gx,0,none⟩) n cap) xs) (it':=Item.ints E (.slice (some ⟨gx,0,none⟩) n cap) (xs.set j y)) i hi (Trn.set_ (show gx ∈ (Value.slice (some ⟨gx,0,none⟩) n cap).ownBlock.toList by simp[Value.ownBlock]) j _) (OwI.setN (h.get i hi) j y) (by simp[Item.ints,Value.ownBlock]) (fun x hx=> .inl hx) hB
theorem xJz {w:World} {A:Option Addr} {n c:Nat} {xs:List Int} (h:RdI w (.slice A n c) xs):n=xs.length:=by
 obtain⟨A',c',e,-⟩:=h.open_;injection e
theorem FM.appint {B:Nat} {w w':World} {L:List Item} {E:TypeId} {v v':Value} {xs ys:List Int} (h:FM B w L) (i:Nat) (hi:L[i]?=some (Item.ints E v xs)) (hg:w.grownBy w' v.ownBlock) (ho:OwI E w' 0 v' ys) (hv: ∀ b,v'.ownBlock=some b→v.ownBlock=some b∨w.heap.size≤b) (hB:B≤w.heap.size):FM B w' (L.set i (Item.ints E v' ys)):=
 h.vE (it:=Item.ints E v xs) (it':=Item.ints E v' ys) i hi (Trn.of_grown hg) ho (by show v'.ownBlock.toList.Nodup;cases v'.ownBlock<;>simp) (fun b hb=>by
  have hb':v'.ownBlock=some b:=by simpa[Item.ints] using hb
  rcases hv b hb' with h1|h1
  ·exact .inl (by simp[Item.ints,h1])
  ·exact .inr h1) hB
theorem FM.appAt {B:Nat} {w w':World} {L:List Item} {E:TypeId} {sz:Nat} {xs ys:List T} {F F':List Nat} {v v':Value} (h:FM B w L) (i:Nat) (hi:L[i]?=some (Item.own (.sl E sz xs) F v)) (hg:w.grownBy w' v.ownBlock) (ho:Own B w' (.sl E sz ys) F' v') (hF: ∀ b ∈ F',b ∈ F∨w.heap.size≤b) (hB:B≤w.heap.size):FM B w' (L.set i (Item.own (.sl E sz ys) F' v')):=
 h.vE (it:=Item.own (.sl E sz xs) F v) (it':=Item.own (.sl E sz ys) F' v') i hi ⟨hg.os,hg.tape,hg.output,hg.size,fun x hx hn=>hg.block x hx (fun e=>hn (by
  have h1:=h.get i hi
  obtain⟨hn0,hlo0⟩:F.Nodup∧ ∀ b ∈ F,B≤b:=⟨(h.front i (List.getElem?_eq_some_iff.1 hi).1 |> fun q=>by
   have q2:=q.fnodup;rw[(List.getElem?_eq_some_iff.1 hi).2] at q2;exact q2),fun b hb=>h.lo b (List.mem_flatMap.2 ⟨_,List.mem_of_getElem? hi,hb⟩)⟩
  exact Own.mem (B:=B) ⟨h1,hn0,hlo0⟩ x e.symm))⟩ ho.ow ho.nodup hF hB
theorem FM.ownAt {B:Nat} {w:World} {L:List Item} {x:T} {F:List Nat} {v:Value} (h:FM B w L) (i:Nat) (hi:L[i]?=some (Item.own x F v)):Own B w x F v:=by
 have q:=h.front i (List.getElem?_eq_some_iff.1 hi).1;rw[(List.getElem?_eq_some_iff.1 hi).2] at q;exact q.own
theorem FM.intsAt {B:Nat} {w:World} {L:List Item} {E:TypeId} {v:Value} {xs:List Int} (h:FM B w L) (i:Nat) (hi:L[i]?=some (Item.ints E v xs)):OwI E w B v xs:=by
 have q:=h.front i (List.getElem?_eq_some_iff.1 hi).1;rw[(List.getElem?_eq_some_iff.1 hi).2] at q;exact q.ints
theorem FM.nodeKind {B:Nat} {w:World} {L:List Item} {E:TypeId} {ns:List xR} {F:List Nat} {g n cap k:Nat} {x:xR} (h:FM B w L) (i:Nat) (hi:L[i]?=some (Item.own (T.sl E 4 (ns.map xR.t)) F (.slice (some ⟨g,0,none⟩) n cap))) (hk:ns[k]?=some x):w.cell? ⟨g,k * 4,none⟩=some (.int .i64 x.zD):=by
 obtain⟨Fx,cx,hel,-,-,-,hc,-⟩:=Own.inner (h.ownAt i hi) (show (ns.map xR.t)[k]?=some x.t by rw[List.getElem?_map,hk];rfl);simp only[xR.t,T.ow] at hel;obtain⟨v3,F3,rfl,-,-⟩:=xR.ow_open hel;exact hc 0 _ rfl
theorem FM.nodeFrom {B:Nat} {w:World} {L:List Item} {E:TypeId} {ns:List xR} {F:List Nat} {g n cap k:Nat} {x:xR} (h:FM B w L) (i:Nat) (hi:L[i]?=some (Item.own (T.sl E 4 (ns.map xR.t)) F (.slice (some ⟨g,0,none⟩) n cap))) (hk:ns[k]?=some x) (hf:0<x.zO.length) (hB:B≤w.heap.size):
  ∃ gf cf z,w.cell? ⟨g,k * 4+3,none⟩=some (.slice (some ⟨gf,0,none⟩) x.zO.length cf)∧w.cell? ⟨gf,0,none⟩=some (.int .i64 z)∧w.frozen? ⟨gf,0,none⟩=false∧gf<w.heap.size∧B≤gf∧gf≠g∧
   ∀ y:Int,FM B (w.setCell ⟨gf,0,none⟩ (.int .i64 y)) (L.set i (Item.own (T.sl E 4 ((ns.set k { x with zO:=x.zO.set 0 y }).map xR.t)) F (.slice (some ⟨g,0,none⟩) n cap))):=by
 have hO:=h.ownAt i hi;obtain⟨Fx,cx,hel,hnd,hsub,hg,hc,hput⟩:=Own.inner hO (show (ns.map xR.t)[k]?=some x.t by rw[List.getElem?_map,hk];rfl);simp only[xR.t,T.ow] at hel;obtain⟨v3,F3,rfl,rfl,h3⟩:=xR.ow_open hel;obtain⟨h4,rfl⟩:=T.ow_ints.1 h3;obtain⟨gf,cf,rfl,-,-,hlt⟩:=OwI.form h4 hf;obtain⟨z,hz⟩: ∃ z,x.zO[0]?=some z:=⟨x.zO[0]'hf,gE _⟩;have hm:gf ∈ (Value.slice (some ⟨gf,0,none⟩) x.zO.length cf).ownBlock.toList++ []:=by simp[Value.ownBlock]
 refine⟨gf,cf,z,hc 3 _ rfl,h4.cell hz,h4.free 0,hlt,hO.lo gf (hsub gf hm),fun e=>hg (e ▸ hm),fun y=>?_⟩;have t1:Trn ((Value.slice (some ⟨gf,0,none⟩) x.zO.length cf).ownBlock.toList++ []) w (w.setCell ⟨gf,0,none⟩ (.int .i64 y)):=Trn.set_ hm 0 _
 have h5:=hput _ (({ x with zO:=x.zO.set 0 y } :xR)).t t1 (by
  simp only[xR.t,T.ow]
  exact xR.ow_mk (x:= { x with zO:=x.zO.set 0 y }) (T.ow_ints.2 ⟨by
   have h6:=h4.setN 0 y;exact h6,rfl⟩)) rfl
 rw[←List.map_set] at h5;exact h.vE (it':=Item.own (T.sl E 4 ((ns.set k { x with zO:=x.zO.set 0 y }).map xR.t)) F (.slice (some ⟨g,0,none⟩) n cap)) i hi (t1.mono (fun b hb=>hsub b hb)) h5.ow h5.nodup (fun b hb=> .inl hb) hB
end
end Go.Proofs.YtdcofkabaigjpaaGreat
