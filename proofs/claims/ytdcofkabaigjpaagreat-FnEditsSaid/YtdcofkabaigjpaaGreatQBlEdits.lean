/- What an edit leaves as it was, in plain words: tracks, feeds, strips, the mix. Outside of its range an edit changes nothing in the mix, in plain words. Contracts: the range of an edit, by the program. The cache after an edit, in plain words. -/
import Derived.Test.YtdcofkabaigjpaaGreatQBkEdits
import Derived.Laws.Externs
import Derived.Deep.RegionLaw
import Derived.Lib.SliceRun
set_option linter.unusedVariables false
set_option linter.unusedSimpArgs false
set_option maxHeartbeats 1000000
set_option maxRecDepth 100000
namespace Go.Proofs.YtdcofkabaigjpaaGreat
section
open Go.RowKit
theorem smpAt_set (l:List Int) (j:Nat) (v:Int) (i:Int):wM (l.set j v) i=if i=(j:Int)∧j<l.length then v else wM l i:=by
 unfold wM;rw[List.length_set];by_cases h:0≤i∧i<(l.length:Int)
 ·rw[if_pos h,if_pos h]
  by_cases e:i=(j:Int)
  ·rw[if_pos ⟨e,by omega⟩]
   subst e;rw[Int.toNat_natCast,zVz zM]
  ·rw[if_neg (fun c=>e c.1),wJz zM]
 ·rw[if_neg h,if_neg h,if_neg zM]
def wTz (ss:List (List Int)) (i:Int) (c:xU):Int:=if c.yE≤i∧i<c.yE+c.zB then c.yB * wM (ss.getD c.zV.toNat []) (c.zO+(i - c.yE)) else 0
def sumV (ss:List (List Int)) (i:Int):List xU→Int
 | []=>0
 |c :: r=>wTz ss i c+sumV ss i r
theorem wRz (ss:List (List Int)) (i:Int): ∀ (a b:List xU),sumV ss i (a++b)=sumV ss i a+sumV ss i b
 | [],b=>by simp[sumV]
 |c :: r,b=>by
  show wTz ss i c+sumV ss i (r++b)=wTz ss i c+sumV ss i r+sumV ss i b
  rw[wRz ss i r b];omega
theorem sumV_zero {ss:List (List Int)} {i:Int} : ∀ {l:List xU},(∀ c ∈ l,wTz ss i c=0)→sumV ss i l=0
 | [],_=>rfl
 |c :: r,h=>by
  show wTz ss i c+sumV ss i r=0
  rw[h c (by simp),sumV_zero (fun c hc=>h c (by simp[hc]))];rfl
theorem xCy {c:xU} {src out:List Int} (h0:0≤c.yE) (i:Int): ∀ k,c.yE.toNat+k≤out.length∨k=0→wM (yWz c src out k) i=if c.yE≤i∧i<c.yE+(k:Int) then wrp (wM out i+c.yB * wM src (c.zO+(i - c.yE))) else wM out i
 |0,_=>by rw[if_neg zM];rfl
 |k+1,hk=>by
  have ih:=xCy (src:=src) (out:=out) h0 i k (.inl zM);simp only[yWz];rw[smpAt_set,wCz];by_cases e:i=((c.yE.toNat+k:Nat):Int)
  ·rw[if_pos ⟨e,by omega⟩,if_pos zM]
   rw[if_neg zM] at ih;rw[←ih,e,smpAt_get,show c.zO+(((c.yE.toNat+k:Nat):Int) - c.yE)=c.zO+(k:Int) by omega]
  ·rw[if_neg (fun h=>e h.1),ih]
   by_cases h:c.yE≤i∧i<c.yE+(k:Int)
   ·rw[if_pos h,if_pos zM]
   ·rw[if_neg h,if_neg zM]
theorem yFy {ss:List (List Int)} {l:List xU} {n:Nat} (hl: ∀ c ∈ l,0≤c.yE∧1≤c.zB) (i:Int): ∀ k,k≤l.length→wM (uJ ss l n k) i=if 0≤i∧i<(n:Int) then wrp (sumV ss i (l.take k)) else 0
 |0,_=>by
  show wM (List.replicate n 0) i=_
  rw[List.take_zero]
  show _=if 0≤i∧i<(n:Int) then wrp 0 else 0
  rw[wrp_zero];have:=smpAt_lead [] n i;rw[List.append_nil] at this;rw[this,vUz (by simp)]
  split<;>rfl
 |k+1,hk=>by
  have ih:=yFy (ss:=ss) (n:=n) hl i k zM;have hg:=gE (show k<l.length by omega);obtain⟨h1,h2⟩:=hl _ (List.mem_of_getElem? hg);generalize hc:l[k]=c at *;simp only[uJ,hg];rw[List.take_add_one,hg,Option.toList_some,wRz,xCy h1 i _ (by unfold clipN;rw[yOz];omega),ih]
  show _=if 0≤i∧i<(n:Int) then wrp (sumV ss i (l.take k)+(wTz ss i c+0)) else 0
  by_cases h0:0≤i∧i<(n:Int)
  ·rw[if_pos h0,if_pos h0]
   unfold wTz clipN;by_cases hi:c.yE≤i∧i<c.yE+c.zB
   ·rw[if_pos zM,if_pos hi,Int.add_zero]
    unfold wrp;omega
   ·rw[if_neg zM,if_neg hi,Int.add_zero,Int.add_zero]
  ·rw[if_neg h0,if_neg h0,if_neg (by unfold clipN;omega)]
theorem uPz {ss:List (List Int)} {t:xS} {n:Nat} (h:zAz t) (i:Int):wM (yEz ss t n) i=if 0≤i∧i<(n:Int) then wrp (sumV ss i t.zS) else 0:=by
 unfold yEz;rw[yFy (fun c hc=>?_) i _ zJ,List.take_length];obtain⟨k,hk⟩:=List.mem_iff_getElem?.1 hc;have ho:=(h.clips k c hk).1;have h1:=xK.1 ho.at_;have h2:=xK.1 ho.length
 omega
structure Near (s s':xO) (D:Int→Prop) (st:Int→Prop):Prop where
 length:s'.zB=s.zB
 mixer:s'.zH=s.zH
 effects:s'.zK=s.zK
 count:s'.zG.length=s.zG.length
 each: ∀ (k:Nat) t f,s.zG[k]?=some t→s.zL[k]?=some f→ ∃ t' f',s'.zG[k]?=some t'∧s'.zL[k]?=some f'∧
  ((f'=f∧(st f∨t'=t)∧ ∀ i,¬ (st f∧D i)→wM (yEz s.zI t s.zB.toNat) i=wM (yEz s'.zI t' s.zB.toNat) i)∨
   (st f∧st f'∧ ∀ i,¬ D i→wM (yEz s.zI t s.zB.toNat) i=0∧wM (yEz s'.zI t' s.zB.toNat) i=0))
inductive Reach (s:xO) (st:Int→Prop):Int→Prop
 |start {j:Int} :st j→Reach s st j
 |send {j:Int} {x:xV} :Reach s st j→x ∈ yLz s j→Reach s st x.yI
theorem Reach.ring {s:xO} {st:Int→Prop} {j:Int} (h:Reach s st j):Ring s j→ ∃ k,st k∧Ring s k:=by
 induction h with
 |start h=>exact fun hr=>⟨_,h,hr⟩
 |send _ hx ih=>exact fun hr=>ih (.send hx hr)
section
variable {D:Int→Prop} {d:Int} {a b c:List Int}
theorem Agr.trans (h:Agr D d a b) (h2:Agr D d b c):Agr D d a c:=fun i hi=>(h i hi).trans (h2 i hi)
theorem Agr.symm (h:Agr D d a b):Agr D d b a:=fun i hi=>(h i hi).symm
theorem Agr.nought (ha: ∀ z ∈ a,Smp z) (h: ∀ i,¬ D (i - d)→wM b i=0):Agr D d (addS a b 1) a:=fun i hi=>by
 rw[yOy,h i hi,Int.mul_zero,Int.add_zero,xVz (wXz ha i)]
end
section
variable {s s':xO} {D st:Int→Prop}
def entN (s:xO) (j:Nat):Int:=(wK s.zH).getD j 0
def InsA (s:xO) (D st:Int→Prop) (I I':List (List Int)):Prop:= ∀ j:Nat,Agr (fun i=>Reach s st (j:Int)∧D i) (entN s j) (I.getD j []) (I'.getD j [])
theorem InsA.set {I I':List (List Int)} (h:InsA s D st I I') (hl:I'.length=I.length) (f:Nat) {x x':List Int} (hx:Agr (fun i=>Reach s st (f:Int)∧D i) (entN s f) x x'):InsA s D st (I.set f x) (I'.set f x'):=fun j=>by
 by_cases e:f=j
 ·subst e
  by_cases hf:f<I.length
  ·rw[zVz hf,zVz zM];exact hx
  ·rw[List.set_eq_of_length_le zM,List.set_eq_of_length_le zM];exact h f
 ·rw[wJz e,wJz e];exact h j
theorem InsA.set1 {I I':List (List Int)} (h:InsA s D st I I') (f:Nat) {x:List Int} (hx:Agr (fun i=>Reach s st (f:Int)∧D i) (entN s f) x (I.getD f [])):InsA s D st (I.set f x) I':=fun j=>by
 by_cases e:f=j
 ·subst e
  by_cases hf:f<I.length
  ·rw[zVz hf];exact hx.trans (h f)
  ·rw[List.set_eq_of_length_le zM];exact h f
 ·rw[wJz e];exact h j
theorem InsA.symm {I I':List (List Int)} (h:InsA s D st I I'):InsA s D st I' I:=fun j=>(h j).symm
theorem ent_nonneg (hs:xW s) (j:Nat):0≤entN s j:=(zYz hs.mixer j).1
theorem feed_agr (hs:xW s) (hs':xW s') (h:Near s s' D st) (n:Nat): ∀ k,InsA s D st (zIz s n k) (zIz s' n k)
 |0=>by
  show InsA s D st (List.replicate _ _) (List.replicate s'.zH.zC.length _)
  rw[h.mixer];exact fun j=>Agr.refl _ _ _
 |k+1=>by
  have ih:=feed_agr hs hs' h n k;have hl:(zIz s' n k).length=(zIz s n k).length:=by rw[(wYz hs' n k).len,(wYz hs n k).len,h.mixer]
  cases ht:s.zG[k]? with
  |none=>
   have ht':s'.zG[k]?=none:=by rw[List.getElem?_eq_none_iff] at ht ⊢;rw[h.count];exact ht
   simp only[zIz,ht,ht'];exact ih
  |some t=>
   have hk:k<s.zL.length:=by rw[hs.feed];exact(List.getElem?_eq_some_iff.1 ht).1
   have hf:=gE hk;generalize s.zL[k]=f at hf;obtain⟨t',f',ht',hf',hc⟩:=h.each k t f ht hf;have f0:=hs.feeds k f hf;have f1:=hs'.feeds k f' hf';rw[zIy ht hf,zIy ht' hf'];rw[h.mixer,h.length];have e1:=ent_nonneg hs f.toNat;have e2:=ent_nonneg hs f'.toNat;have c1:(((wK s.zH).getD f.toNat 0).toNat:Int)=entN s f.toNat:=by unfold entN at *;omega
   have c2:(((wK s.zH).getD f'.toNat 0).toNat:Int)=entN s f'.toNat:=by unfold entN at *;omega
   rcases hc with ⟨rfl,hst,hc⟩|⟨hst,hst',hc⟩
   ·refine ih.set hl _ (Agr.add (ih _) ?_ 1)
    have hag:Agr (fun i=>Reach s st ((f'.toNat:Nat):Int)∧D i) 0 (yEz s.zI t s.zB.toNat) (yEz s'.zI t' s.zB.toNat):=fun i hi=>hc i (fun hd=>hi ⟨.start (by rw[show ((f'.toNat:Nat):Int)=f' by omega];exact hd.1),by rw[Int.sub_zero];exact hd.2⟩)
    have:=hag.late ((wK s.zH).getD f'.toNat 0).toNat n;rw[c1,Int.zero_add] at this;exact this
   ·have key: ∀ (g:Int) (tr:List Int),0≤g→st g→(((wK s.zH).getD g.toNat 0).toNat:Int)=entN s g.toNat→(∀ i,¬ D i→wM tr i=0)→ ∀ i,¬ (Reach s st ((g.toNat:Nat):Int)∧D (i - entN s g.toNat))→wM (xMz tr ((wK s.zH).getD g.toNat 0).toNat n) i=0:=by
     intro g tr hg hsg hcg htr i hi;rw[zLy]
     split
     ·rw[hcg]
      exact htr _ (fun hd=>hi ⟨.start (by rw[show ((g.toNat:Nat):Int)=g by omega];exact hsg),hd⟩)
     ·rfl
    have sm: ∀ (S:xO),xW S→ ∀ j,∀ z ∈ (zIz S n k).getD j [],Smp z:=by
     intro S hS j z hz;have ok:=wYz hS n k;rw[List.getD_eq_getElem?_getD] at hz
     cases hj:(zIz S n k)[j]? with
     |none=>rw[hj] at hz;simp at hz
     |some l=>rw[hj] at hz;exact(ok.each l (List.mem_of_getElem? hj)).2 z hz
    refine InsA.set1 ?_ _ (Agr.nought (sm s hs _) (key f _ f0.1 hst c1 (fun i hi=>(hc i hi).1)));refine InsA.symm (InsA.set1 ih.symm _ (Agr.nought (sm s' hs' _) (key f' _ f1.1 hst' c2 (fun i hi=>(hc i hi).2))))
theorem send_agr (hs:xW s) {k:Nat} {x:xP} (hx:s.zH.zC[k]?=some x) {y y':List Int} {n:Nat} (hy:Agr (fun i=>Reach s st (k:Int)∧D i) (entN s k+x.zZ) y y') {I I':List (List Int)} (hI:xTz s.zH.zC.length n I) (hI':xTz s.zH.zC.length n I') (h:InsA s D st I I'): ∀ q,InsA s D st (yPz y n ((zKz s.zH).getD k []) x.zT I q) (yPz y' n ((zKz s.zH).getD k []) x.zT I' q)
 |0=>h
 |q+1=>by
  have ih:=send_agr hs hx hy hI hI' h q
  cases hz:x.zT[q]? with
  |none=>simp only[yPz,hz];exact ih
  |some z=>
   have hto:=to_lt hs.mixer hx;rw[zJy hz,zJy hz];have w0:=wait_ok hs.mixer hx hz;have hm:=xBz hs.mixer hx q z hz;have hd:(zKz s.zH).getD k []=x.zT.map (xPz (wK s.zH) k x):=by unfold zKz;rw[List.getD_eq_getElem?_getD,List.getElem?_mapIdx,hx];rfl
   have hw:((zKz s.zH).getD k []).getD q 0=xPz (wK s.zH) k x z:=by rw[hd,List.getD_eq_getElem?_getD,List.getElem?_map,hz];rfl
   rw[hw];refine ih.set (by rw[(vWz hI' hto q).len,(vWz hI hto q).len]) _ (Agr.add (ih _) ?_ _);have h2:=hy.late (xPz (wK s.zH) k x z).toNat n;have e:entN s k+x.zZ+((xPz (wK s.zH) k x z).toNat:Int)=entN s z.yI.toNat:=by unfold entN;unfold xPz at *;omega
   rw[e] at h2;refine h2.mono (fun i hi=>⟨?_,hi.2⟩);have hr:Reach s st z.yI:= .send hi.1 (by rw[xZz hx];exact List.mem_of_getElem? hz)
   rwa [show ((z.yI.toNat:Nat):Int)=z.yI by omega]
theorem strip_agr (hs:xW s) (hs':xW s') (h:Near s s' D st) (hd: ∀ j,Reach s st j→Ups D∨uU (xQz s j)=false) (n:Nat): ∀ k,k≤s.zH.zC.length→InsA s D st (wR s n k).1 (wR s' n k).1∧
  ∀ (j:Nat) (x:xP),j<k→s.zH.zC[j]?=some x→Agr (fun i=>Reach s st (j:Int)∧D i) (entN s j+x.zZ) ((wR s n k).2.getD j []) ((wR s' n k).2.getD j [])
 |0,_=>by
  refine⟨?_,fun j x hj=>absurd hj zM⟩
  show InsA s D st (zIz s n s.zG.length) (zIz s' n s'.zG.length)
  rw[h.count];exact feed_agr hs hs' h n _
 |k+1,hk=>by
  obtain⟨h1,h2⟩:=strip_agr hs hs' h hd n k zM;have hx:=gE (show k<s.zH.zC.length by omega);generalize s.zH.zC[k]=x at hx;have hx':s'.zH.zC[k]?=some x:=by rw[h.mixer];exact hx
  rw[uMz hx,uMz hx'];obtain⟨o1,o2⟩:=wAz hs n k zM;obtain⟨o1',o2'⟩:=wAz hs' n k (by rw[h.mixer];omega);rw[h.mixer] at o1' ⊢;have hlat:=wY.1 (hs.mixer.each k x hx).1.latency
  have hy:Agr (fun i=>Reach s st (k:Int)∧D i) (entN s k+x.zZ) (zCz s n (wR s n k).1 k x) (zCz s' n (wR s' n k).1 k x):=by
   unfold zCz;rw[h.effects];have hg:=gE (show k<s.zK.length by rw[hs.effect];omega);have he:=hs.effects k _ hg;have hge:s.zK.getD k uO=s.zK[k]'(by rw[hs.effect];omega):=by rw[List.getD_eq_getElem?_getD,hg];rfl
   have hea:xQz s (k:Int)=s.zK[k]'(by rw[hs.effect];omega):=by unfold xQz;rw[Int.toNat_natCast,hg];rfl
   rw[hge]
   have:=(Agr.eff (n:=n) he (by
    by_cases hr:Reach s st (k:Int)
    ·rcases hd _ hr with hu|hu
     ·exact .inl (fun i j hi hij=>⟨hi.1,hu i j hi.2 hij⟩)
     ·exact .inr (by rw[←hea];exact hu)
    ·exact .inl (fun i j hi _=>absurd hi.1 hr)) (h1 k)).late x.zZ.toNat n
   rwa [show ((x.zZ.toNat:Nat):Int)=x.zZ by omega] at this
  refine⟨send_agr hs hx hy o1 o1' h1 _,fun j y hj hjx=>?_⟩;by_cases e:j<k
  ·have:=h2 j y e hjx
   rw[List.getD_eq_getElem?_getD,List.getElem?_append_left (by rw[o2.len];exact e),List.getD_eq_getElem?_getD (l:=_++_),List.getElem?_append_left (by rw[o2'.len];exact e)];rw[List.getD_eq_getElem?_getD,List.getD_eq_getElem?_getD] at this;exact this
  ·obtain rfl:j=k:=by omega
   rw[hx] at hjx;injection hjx with hjx;subst hjx;rw[List.getD_eq_getElem?_getD,List.getElem?_append_right (by rw[o2.len];omega),List.getD_eq_getElem?_getD,List.getElem?_append_right (by rw[o2'.len];omega),o2.len,o2'.len,Nat.sub_self];exact hy
theorem mix_agr (hs:xW s) (hs':xW s') (h:Near s s' D st) (hd: ∀ j,Reach s st j→Ups D∨uU (xQz s j)=false) {i:Nat} (hi: ¬ D (i:Int)):(mixF s').getD i 0=(mixF s).getD i 0:=by
 have hm:=hs.mixer.some_;have hx:=gE (show s.zH.zC.length - 1<s.zH.zC.length by omega);generalize s.zH.zC[s.zH.zC.length - 1]=x at hx;have ha:=(strip_agr hs hs' h hd (s.zB+zHz s.zH).toNat _ zJ).2 (s.zH.zC.length - 1) x zM hx
 have ht:zHz s.zH=entN s (s.zH.zC.length - 1)+x.zZ:=by
  unfold zHz entN;rw[List.getD_eq_getElem?_getD (l:=s.zH.zC),hx];rfl
 rw[←smpAt_get,←smpAt_get];unfold mixF outsF;rw[h.mixer,h.length,yNy,yNy]
 split
 ·refine(ha _ (fun hd=>hi ?_)).symm
  have:=hd.2
  rwa [show zHz s.zH+(i:Int) - (entN s (s.zH.zC.length - 1)+x.zZ)=(i:Int) by omega] at this
 ·rfl
end
end
section
open Go.RowKit
theorem lowF_mem: ∀ (l:List xU) (a:Int),∀ c ∈ l,lowF a l≤c.yE
 |c :: r,a,c',h=>by
  rcases List.mem_cons.1 h with e|e
  ·subst e
   exact Int.le_trans (lowF_le r (min a c'.yE)) (Int.min_le_right _ _)
  ·exact lowF_mem r (min a c.yE) c' e
theorem highF_mem: ∀ (l:List xU) (b:Int),∀ c ∈ l,c.yE+c.zB≤vHz b l
 |c :: r,b,c',h=>by
  rcases List.mem_cons.1 h with e|e
  ·subst e
   exact Int.le_trans (Int.le_max_right _ _) (highF_ge r (max b (c'.yE+c'.zB)))
  ·exact highF_mem r (max b (c.yE+c.zB)) c' e
theorem spanF_mem {l:List xU} {c:xU} (h:c ∈ l):(uV l).1≤c.yE∧c.yE+c.zB≤(uV l).2:=by
 cases l with
 |nil=>simp at h
 |cons x r=>exact⟨lowF_mem _ _ c h,highF_mem _ _ c h⟩
theorem clipV_out {ss:List (List Int)} {l:List xU} {c:xU} (h:c ∈ l) {i:Int} (hi: ¬ ((uV l).1≤i∧i<(uV l).2)):wTz ss i c=0:=by
 have:=spanF_mem h;unfold wTz;rw[if_neg zM]
def DirtyT (s:xO) (e:wV) (i:Int):Prop:=wO s e≠ []∧(uV (wO s e)).1≤i∧(xDz s e∨i<(uV (wO s e)).2)
def StartS (s:xO) (e:wV) (j:Int):Prop:=j=s.zL.getD e.yD.toNat 0∨(e.zD=4∧j=e.yF)
section
variable {s:xO} {e:wV}
theorem yPy {i:Int} (hi: ¬ DirtyT s e i) {c:xU} (hc:c ∈ wO s e) (ss:List (List Int)):wTz ss i c=0:=by
 refine clipV_out hc (fun h=>hi ⟨fun e=>?_,h.1,.inr h.2⟩);rw[e] at hc;simp at hc
theorem sum_edit {l:List xU} {ss:List (List Int)} {i:Int} (hr:e.zD=1∨e.zD=2∨e.zD=3) (hk:e.zD≠1→e.yG.toNat<l.length) (h1:e.zD≠2→wTz ss i e.yC=0) (h2:e.zD≠1→wTz ss i (l.getD e.yG.toNat yXz)=0):sumV ss i (vJ l e)=sumV ss i l:=by
 unfold vJ
 rcases hr with k|k|k
 ·rw[if_pos k,wRz]
  show _+(wTz ss i e.yC+_)=_
  rw[h1 zM,Int.zero_add,←wRz,List.take_append_drop]
 ·rw[if_neg zM,if_pos k,wRz]
  have hl:=hk zM;have hc:=cut_at (gE hl);have h2:=h2 zM;rw[List.getD_eq_getElem?_getD,gE hl,Option.getD_some] at h2
  conv=>rhs;rw[hc]
  rw[wRz]
  show _=_+(wTz ss i _+_)
  rw[h2,Int.zero_add]
 ·rw[if_neg zM,if_neg zM,wRz]
  have hl:=hk zM;have hc:=cut_at (gE hl);have h2:=h2 zM;rw[List.getD_eq_getElem?_getD,gE hl,Option.getD_some] at h2
  conv=>rhs;rw[hc]
  rw[wRz]
  show _+(wTz ss i e.yC+_)=_+(wTz ss i _+_)
  rw[h2,h1 zM]
theorem near_edit (hs:xW s) (hf:wH e) (hr:xZ s e) (hs':xW (doE s e)) (h5:e.zD≠5):Near s (doE s e) (DirtyT s e) (StartS s e):=by
 by_cases h4:e.zD=4
 ·-- a track goes to another strip
  have hd:doE s e= { s with zL:=s.zL.set e.yD.toNat e.yF } :=by unfold doE;rw[if_pos h4]
  rw[hd];refine⟨rfl,rfl,rfl,rfl,fun k t f ht hfe=>?_⟩;obtain⟨k0,t0,hk0,ht0⟩:=vV hr h5;have hkl:k<s.zL.length:=(List.getElem?_eq_some_iff.1 hfe).1;by_cases ek:k=k0
  ·subst ek
   rw[ht] at ht0;injection ht0 with ht0;subst ht0;have hset:(s.zL.set e.yD.toNat e.yF)[k]?=some e.yF:=by rw[hk0,Int.toNat_natCast,List.getElem?_set_self hkl]
   have hold:s.zL.getD e.yD.toNat 0=f:=by rw[hk0,Int.toNat_natCast,List.getD_eq_getElem?_getD,hfe];rfl
   by_cases ev:e.yF=f
   ·exact⟨t,e.yF,ht,hset,.inl ⟨ev,.inr rfl,fun i _=>rfl⟩⟩
   ·have hch:wO s e=t.zS:=by
     unfold wO;rw[if_neg zM,if_neg zM,if_neg zM,if_neg (by rw[hold];exact ev),hk0,wU ht]
    have hz: ∀ i,¬ DirtyT s e i→wM (yEz s.zI t s.zB.toNat) i=0:=by
     intro i hi;rw[uPz (hs.tracks k t ht).1]
     split
     ·rw[sumV_zero (fun c hc=>yPy hi (by rw[hch];exact hc) _)];exact wrp_zero
     ·rfl
    exact⟨t,e.yF,ht,hset,.inr ⟨.inl hold.symm,.inr ⟨h4,rfl⟩,fun i hi=>⟨hz i hi,hz i hi⟩⟩⟩
  ·exact⟨t,f,ht,by show (s.zL.set e.yD.toNat e.yF)[k]?=_;rw[hk0,Int.toNat_natCast,List.getElem?_set_ne (fun h=>ek h.symm)];exact hfe,.inl ⟨rfl,.inr rfl,fun i _=>rfl⟩⟩
 ·-- the clips of a track change
  have hk:e.zD=1∨e.zD=2∨e.zD=3:=by
   rcases wNz hf with h|h|h|h|h
   ·exact .inl h
   ·exact .inr (.inl h)
   ·exact .inr (.inr h)
   ·exact absurd h h4
   ·exact absurd h h5
  have hd:doE s e= { s with zG:=vE s.zG e.yD.toNat fun x=>⟨vJ x.zS e⟩ } :=by unfold doE;rw[if_neg h4,if_neg h5]
  have hs2:=hs';rw[hd] at hs2 ⊢;refine⟨rfl,rfl,rfl,vO _ _ _,fun k t f ht hfe=>?_⟩;obtain⟨k0,t0,hk0,ht0⟩:=vV hr h5;have hget:(vE s.zG e.yD.toNat fun x=>(⟨vJ x.zS e⟩:xS))[k]?=some (if k=e.yD.toNat then ⟨vJ t.zS e⟩ else t):=by rw[zWz,ht];rfl
  by_cases ek:k=k0
  ·subst ek
   rw[ht] at ht0;injection ht0 with ht0;subst ht0;rw[hk0,Int.toNat_natCast,if_pos rfl] at hget;have hold:s.zL.getD e.yD.toNat 0=f:=by rw[hk0,Int.toNat_natCast,List.getD_eq_getElem?_getD,hfe];rfl
   refine⟨⟨vJ t.zS e⟩,f,by show (vE s.zG e.yD.toNat _)[k]?=_;rw[hk0,Int.toNat_natCast];exact hget,hfe,.inl ⟨rfl,.inl (.inl hold.symm),fun i hi=>?_⟩⟩;have hi: ¬ DirtyT s e i:=fun h=>hi ⟨.inl hold.symm,h⟩
   have ht2:=(hs2.tracks k ⟨vJ t.zS e⟩ (by show (vE s.zG e.yD.toNat _)[k]?=_;rw[hk0,Int.toNat_natCast];exact hget)).1;rw[uPz (hs.tracks k t ht).1,uPz ht2];have hcl:uS s e=t.zS.getD e.yG.toNat yXz:=by unfold uS;rw[hk0,wU ht]
   have hrr:=hr;unfold xZ at hrr;rw[if_neg h5] at hrr;rw[hk0,wU ht] at hrr
   have hlen:e.zD≠1→e.yG.toNat<t.zS.length:=by
    intro h1;have hrr:=hrr.2;rw[if_neg h1] at hrr
    rcases hk with k|k|k
    ·exact absurd k h1
    ·rw[if_neg zM,if_pos k] at hrr
     have:=xK.1 hrr
     omega
    ·rw[if_pos k] at hrr
     have:=xK.1 hrr.1
     omega
   rw[sum_edit hk hlen (fun h2=>yPy hi (by unfold wO;rcases hk with k|k|k<;>simp[k];exact absurd k h2) _) (fun h1=>by rw[←hcl];exact yPy hi (by unfold wO;rcases hk with k|k|k<;>simp[k];exact absurd k h1) _)]
  ·rw[if_neg zM] at hget
   exact⟨t,f,hget,hfe,.inl ⟨rfl,.inr rfl,fun i _=>rfl⟩⟩
theorem start_state (hl: ¬ xDz s e) {j:Int} (h:Reach s (StartS s e) j):uU (xQz s j)=false:=by
 rw[Bool.eq_false_iff];intro hs;obtain⟨k,hk,hr⟩:=h.ring (.own hs)
 rcases hk with rfl|⟨h4,rfl⟩
 ·exact hl (.inl hr)
 ·exact hl (.inr ⟨h4,hr⟩)
theorem mix_range (h:(wQ s e).2=0) {i:Nat} (hi:(i:Int)<s.zB) (hn: ¬ ((vH s e).1≤(i:Int)∧(i:Int)<(vH s e).2)):(mixF (doE s e)).getD i 0=(mixF s).getD i 0:=by
 obtain⟨h1,h2,h3,_,h5,_⟩:=xIz h;by_cases k5:e.zD=5
 ·unfold vH at hn
  rw[if_pos k5] at hn;exact absurd ⟨by omega,hi⟩ hn
 refine mix_agr h1 h5 (near_edit h1 h2 h3 h5 k5) (fun j hj=>?_) (fun hd=>hn ?_)
 ·by_cases hl:xDz s e
  ·exact .inl (fun i j hi hij=>⟨hi.1,Int.le_trans hi.2.1 hij,.inl hl⟩)
  ·exact .inr (start_state hl hj)
 ·obtain⟨d1,d2,d3⟩:=hd
  have key:(uV (wO s e)).1≤(i:Int)∧(i:Int)<min (if tf (xDz s e)=true then s.zB else (uV (wO s e)).2) s.zB:=by
   refine⟨d2,?_⟩;by_cases hl:xDz s e
   ·rw[xI hl,if_pos rfl];omega
   ·rw[xH hl,if_neg (by simp)]
    rcases d3 with d3|d3
    ·exact absurd d3 hl
    ·omega
  unfold vH;rw[if_neg k5,if_neg d1,if_pos zM];exact key
end
end
section
open Go.RowKit
theorem clips_lit {w:World} {g:Nat} {E:TypeId} {l:List xU} {cs:List Value} (hb:Bk w g E cs.toArray) (hs:l.length≤9223372036854775807) (h:T.rds w (l.map xU.t) cs):T.rd w (T.sl E 5 (l.map xU.t)) [.slice (some ⟨g,0,none⟩) l.length l.length]:=by
 simp only[T.rd];refine⟨_,cs,rfl,fun x hx=>?_,?_,h⟩
 ·obtain⟨y,_,rfl⟩:=List.mem_map.1 hx;exact xU.wide_t y
 ·have hl:cs.length=l.length * 5:=by
   rw[T.rds_len _ _ h,T.wides_mul (sz:=5) _ (fun x hx=>by obtain⟨y,_,rfl⟩:=List.mem_map.1 hx;exact xU.wide_t y),List.length_map]
  refine⟨by rw[hl,List.length_map],some ⟨g,0,none⟩,l.length,by rw[List.length_map],by rw[List.length_map];exact zJ,?_,fun _=>⟨g,0,rfl,hb.lt,fun j u hj=>?_⟩⟩
  ·exact hs
  ·rw[Nat.zero_add];exact(hb.cell j).trans (by simpa using hj)
theorem T.rds_cons1 {w:World} {c:xU} {cs:List Value} (h:T.rds w c.fs cs):T.rds w ([c].map xU.t) cs:=by
 simp only[List.map_cons,List.map_nil,T.rds];exact⟨cs,[],by simp,by simpa only[xU.t,T.rd] using h,rfl⟩
theorem T.rds_cons2 {w:World} {c d:xU} {cs ds:List Value} (h:T.rds w c.fs cs) (k:T.rds w d.fs ds):T.rds w ([c,d].map xU.t) (cs++ds):=by
 simp only[List.map_cons,List.map_nil,T.rds];exact⟨cs,ds,rfl,by simpa only[xU.t,T.rd] using h,ds,[],by simp,by simpa only[xU.t,T.rd] using k,rfl⟩
theorem T.nil_rd (w:World) (E:TypeId) (sz:Nat):T.rd w (T.sl E sz (([]:List xU).map xU.t)) [.slice none 0 0]:=by
 simp only[T.rd,List.map_nil];exact⟨_,[],rfl,by simp,Rd.nil_ w sz,rfl⟩
theorem spanF_at {l:List xU} {c:xU} (h:l[0]?=some c):uV l=(lowF c.yE l,vHz 0 l):=by
 cases l with
 |nil=>simp at h
 |cons x r=>simp at h;subst h;rfl
theorem lowF_bd {l:List xU} {a:Int} (ha:0≤a∧a≤4000) (h: ∀ c ∈ l,zLz c):0≤lowF a l∧lowF a l≤4000:=by
 induction l generalizing a with
 |nil=>exact ha
 |cons x r ih=>
  have h1:=xK.1 (h x (by simp)).at_;have h2:=xK.1 (h x (by simp)).length;exact ih (a:=min a x.yE) zM (fun c hc=>h c (by simp[hc]))
theorem highF_bd {l:List xU} {a:Int} (ha:0≤a∧a≤4000) (h: ∀ c ∈ l,zLz c):0≤vHz a l∧vHz a l≤4000:=by
 induction l generalizing a with
 |nil=>exact ha
 |cons x r ih=>
  have h1:=xK.1 (h x (by simp)).at_;have h2:=xK.1 (h x (by simp)).length;exact ih (a:=max a (x.yE+x.zB)) zM (fun c hc=>h c (by simp[hc]))
theorem lowF_take {l:List xU} {a:Int} {k:Nat} {c:xU} (h:l[k]?=some c):lowF a (l.take (k+1))=min (lowF a (l.take k)) c.yE:=by rw[vG h,lowF_snoc]
theorem highF_take {l:List xU} {a:Int} {k:Nat} {c:xU} (h:l[k]?=some c):vHz a (l.take (k+1))=max (vHz a (l.take k)) (c.yE+c.zB):=by rw[vG h,highF_snoc]
theorem c_spanOf (v:Value) (l:List xU) (w:World) (hl: ∀ c ∈ l,zLz c) (hr:T.rd w (T.sl 39 5 (l.map xU.t)) [v]):Calls Tryz.prog 64 #[v] w fun e w'=>e= .returned (.tuple #[.int .i64 (uV l).1,.int .i64 (uV l).2])∧Below w.heap.size w w':=by
 obtain⟨A,cap,rfl,hln,hc,hx⟩:=T.yS hr;have HX:=xN hx;clear hx hr;have HOK:=xN hl;clear hl
 go_enter Tryz.func64,Tryz.ntmps64
 by_cases h0:l.length=0
 ·obtain rfl:l= []:=List.eq_nil_of_length_eq_zero h0
  clear h0;go_wp2;refine bodyPost_ret (v:= .tuple #[.int .i64 0,.int .i64 0]) (by simp[results,Tryz.results64,go_sem]) rfl ?_;exact⟨rfl,zR⟩
 have hlt0:0<l.length:=by omega
 have hg0:=gE hlt0;obtain⟨b0,of0,cs0,hA0,hb0,hcs0,hcell0⟩:=HX.o 0 l[0] hg0;subst hA0;generalize l[0]=z at *;have HSP:=xN (spanF_at hg0);have HZ:=xN (HOK.o z (List.mem_of_getElem? hg0));clear hg0;have HBr:=xN (Below.refl w.heap.size w);obtain rfl:=xU.yT (show T.rds _ _ _ by simpa only[xU.t,T.rd] using hcs0);obtain⟨p0,p1,p2,p3,p4⟩:=oc5 HBr.o hb0 hcell0;clear hcs0 hcell0;have hz1:=xK.1 HZ.o.at_;have hz2:=xK.1 HZ.o.length;have h0i: ¬ (l.length:Int)=0:=by omega
 clear h0;go_wp2
 go_loopw [4,5,17] (fun a b i wr=> ∃ (k:Nat) (am bm:Int),k≤l.length∧i= .int .i64 k∧a= .int .i64 am∧b= .int .i64 bm∧am=lowF z.yE (l.take k)∧bm=vHz 0 (l.take k)∧Below w.heap.size w wr) (fun _ _ i _=>l.length - (intOf i).toNat)
 case atStart=>exact⟨0,_,_,Nat.zero_le _,rfl,rfl,rfl,rfl,rfl,zR⟩
 case round=>
  obtain⟨k,am,bm,hk,rfl,rfl,rfl,ha,hb,hbw⟩:=hrel;have HA:=xN ha;have HB0:=xN hb;have HB:=xN hbw;clear ha hb hbw;by_cases hlt:k<l.length
  rotate_left
  ·obtain rfl:k=l.length:=by omega
   have hA:=HA.o;have hB:=HB0.o;rw[List.take_length] at hA hB;have HR:=xN (And.intro hA hB);clear hA hB;go_wp2;refine bodyPost_ret (v:= .tuple #[.int .i64 am,.int .i64 bm]) (by simp[results,Tryz.results64,go_sem]) rfl ?_;exact⟨by rw[HSP.o,HR.o.1,HR.o.2],HB.o⟩
  have hgk:=gE hlt;obtain⟨b1,off,cs1,hA,hb1,hcs,hcell⟩:=HX.o k l[k] hgk;obtain⟨rfl,rfl⟩:b0=b1∧of0=off:=by injection hA with hA;injection hA with e1 e2;exact⟨e1,e2⟩
  clear hA;generalize l[k]=y at *;have HG:=xN hgk;clear hgk;obtain rfl:=xU.yT (show T.rds _ _ _ by simpa only[xU.t,T.rd] using hcs);obtain⟨d0,d1,d2,d3,d4⟩:=oc5 HB.o hb1 hcell;clear hcs hcell;have hq1:b0<wr.heap.size:=zW hb1 HB.o.size;have HY:=xN (HOK.o y (List.mem_of_getElem? HG.o));have hy1:=xK.1 HY.o.at_;have hy2:=xK.1 HY.o.length;have hwr:IntKind.i64.wrap (y.yE+y.zB)=y.yE+y.zB:=IntWalk.i64_in _ zM;have hWb:Below wr.heap.size wr (wr.alloc (.cells #[.int .i64 y.zV,.int .i64 y.zO,.int .i64 y.zB,.int .i64 y.yE,.int .i64 y.yB] 39)):=zR.alloc zJ _;have hNb:=Bk.born wr 39 #[.int .i64 y.zV,.int .i64 y.zO,.int .i64 y.zB,.int .i64 y.yE,.int .i64 y.yB];go_wp2;generalize wr.alloc (.cells #[.int .i64 y.zV,.int .i64 y.zO,.int .i64 y.zB,.int .i64 y.yE,.int .i64 y.yB] 39)=W at *;have HWb:=xN hWb;have HNb:=xN hNb;clear hWb;have g0:=xM hNb;clear hNb;refine rB ?_
  repeat(first|go_big_quiet_skip|(go_big_quiet_want;go_big_quiet_op;go_big_quiet_on))
  refine wpQuiet_nil ?_;rintro w9 ⟨uu,rfl⟩;have hb9:=yM W uu;generalize bel W uu=w9 at *;have HC:=xN (yO HB.o HB.o.size (yO HWb.o HWb.o.size hb9));clear hb9 g0;have HA2:=xN (lowF_take (a:=z.yE) HG.o);have HB2:=xN (highF_take (a:=0) HG.o);go_wp2
  go_roundw
  case rel=>exact⟨k+1,_,_,by omega,by go_num,rfl,rfl,by rw[HA2.o,←HA.o];split<;>omega,by rw[HB2.o,←HB0.o];split<;>omega,HC.o⟩
  case measure=>simp[intOf];omega
theorem c_changedClips (x:xO) (cs:List Value) (ed:wV) (w:World) (hv:xW x) (hr:xZ x ed) (hk:ed.zD=1∨ed.zD=2∨ed.zD=3∨ed.zD=4) (h:T.rds w x.fs cs):Calls Tryz.prog 65 #[.agg cs.toArray,.agg #[.int .i64 ed.zD,.int .i64 ed.yD,.int .i64 ed.yG,.int .i64 ed.yF,.int .i64 ed.yC.zV,.int .i64 ed.yC.zO,.int .i64 ed.yC.zB,.int .i64 ed.yC.yE,.int .i64 ed.yC.yB]] w fun e w'=> ∃ v,e= .returned v∧T.rd w' (T.sl 39 5 ((wO x ed).map xU.t)) [v]∧Below w.heap.size w w':=by
 obtain⟨ek,et,ec,ev,ns,nf,nl,na,ng⟩:=ed;dsimp only;obtain⟨v1,v2,v3,v4,v5,rfl,h1,h2,h3,h4,h5⟩:=xO.yT h;clear h;obtain⟨va1,vc1,rfl,vl1,vm1,R1,HX1⟩:=oG h1;clear h1;obtain⟨va2,vc2,rfl,vl2,vm2,R2,HX2⟩:=oG h2;clear h2;obtain⟨va3,vc3,rfl,vl3,vm3,R3,HX3⟩:=oI h3;clear h3;obtain⟨va4,vc4,rfl,vl4,vm4,R4,HX4⟩:=oG h4;clear h4;obtain⟨va5,vc5,rfl,vl5,vm5,R5,HX5⟩:=oG h5;clear h5;obtain⟨HB0,HK0⟩:=aK w 32 #[.int .i64 x.zB,(.slice va1 x.zI.length vc1),(.slice va2 x.zG.length vc2),(.slice va3 x.zL.length vc3),(.slice va4 x.zK.length vc4),(.slice va5 x.zH.zC.length vc5)];have HV:=xN hv;have HRG:=xN hr;have HK:=xN hk;clear hv hr hk;dsimp only at HK;have hk5:ek≠5:=by have:=HK.o;omega
 obtain⟨k,t,hk,ht⟩:=vV HRG.o hk5;obtain rfl:et=(k:Int):=hk;have hlt:k<x.zG.length:=(List.getElem?_eq_some_iff.1 ht).1;have hr:=HRG.o;unfold xZ at hr;rw[if_neg hk5] at hr;have hr:=hr.2;dsimp only at hr;rw[wU ht] at hr;have HT:=xN ht;have HCLK:=xN (wU ht);obtain⟨b,off,cs1,hA,hb1,hcs,hcell⟩:=HX2.o k t ht;subst hA;have HBr:=xN (Below.refl w.heap.size w);obtain⟨u0,rfl,hRY0⟩:=xS.yT (show T.rds _ _ _ by simpa only[xS.t,T.rd] using hcs);have d0:=oc1 HBr.o hb1 hcell;have RY0:=xN (T.yJ hRY0 HBr.o);clear hRY0;clear hcs hcell;obtain⟨ua0,uc0,rfl,ul0,um0,ux0⟩:=T.yS RY0.o;have HUX:=xN ux0;clear ux0 ht hk5;have hi0:(0:Int)≤(k:Int):=by omega
 have hi1:(k:Int)<(x.zG.length:Int):=by omega
 by_cases k1:ek=1
 ·
  have q1:(ek == 1)=true:=xA k1;have HC:=xN (show wO x ⟨ek,(k:Int),ec,ev,⟨ns,nf,nl,na,ng⟩⟩= [⟨ns,nf,nl,na,ng⟩] by unfold wO;rw[if_pos k1]);clear k1 hr;have HBa:=xN (HB0.o.alloc HB0.o.size (.cells #[.int .i64 ek,.int .i64 (k:Int),.int .i64 ec,.int .i64 ev,.int .i64 ns,.int .i64 nf,.int .i64 nl,.int .i64 na,.int .i64 ng] 41));have HP:=xN (HK0.o.alloc (.cells #[.int .i64 ek,.int .i64 (k:Int),.int .i64 ec,.int .i64 ev,.int .i64 ns,.int .i64 nf,.int .i64 nl,.int .i64 na,.int .i64 ng] 41));have HE:=xN (Bk.born1' w (.cells #[.int .i64 x.zB,(.slice va1 x.zI.length vc1),(.slice (some ⟨b,off,none⟩) x.zG.length vc2),(.slice va3 x.zL.length vc3),(.slice va4 x.zK.length vc4),(.slice va5 x.zH.zC.length vc5)] 32) 41 #[.int .i64 ek,.int .i64 (k:Int),.int .i64 ec,.int .i64 ev,.int .i64 ns,.int .i64 nf,.int .i64 nl,.int .i64 na,.int .i64 ng]);have WW:=xN (rfl:((w.alloc (.cells #[.int .i64 x.zB,(.slice va1 x.zI.length vc1),(.slice (some ⟨b,off,none⟩) x.zG.length vc2),(.slice va3 x.zL.length vc3),(.slice va4 x.zK.length vc4),(.slice va5 x.zH.zC.length vc5)] 32)).alloc (.cells #[.int .i64 ek,.int .i64 (k:Int),.int .i64 ec,.int .i64 ev,.int .i64 ns,.int .i64 nf,.int .i64 nl,.int .i64 na,.int .i64 ng] 41))=((w.alloc (.cells #[.int .i64 x.zB,(.slice va1 x.zI.length vc1),(.slice (some ⟨b,off,none⟩) x.zG.length vc2),(.slice va3 x.zL.length vc3),(.slice va4 x.zK.length vc4),(.slice va5 x.zH.zC.length vc5)] 32)).alloc (.cells #[.int .i64 ek,.int .i64 (k:Int),.int .i64 ec,.int .i64 ev,.int .i64 ns,.int .i64 nf,.int .i64 nl,.int .i64 na,.int .i64 ng] 41)))
  go_enter Tryz.func65,Tryz.ntmps65
  have m0:=(HBa.o.cell hb1).trans d0;have lb1:=zW hb1 HBa.o.size;go_wp2;go_ret
  rw[HC.o];have hbk:Bk (((w.alloc (.cells #[.int .i64 x.zB,(.slice va1 x.zI.length vc1),(.slice (some ⟨b,off,none⟩) x.zG.length vc2),(.slice va3 x.zL.length vc3),(.slice va4 x.zK.length vc4),(.slice va5 x.zH.zC.length vc5)] 32)).alloc (.cells #[.int .i64 ek,.int .i64 (k:Int),.int .i64 ec,.int .i64 ev,.int .i64 ns,.int .i64 nf,.int .i64 nl,.int .i64 na,.int .i64 ng] 41)).alloc (.cells #[.int .i64 ns,.int .i64 nf,.int .i64 nl,.int .i64 na,.int .i64 ng] 39)) (w.heap.size+1+1) 39 #[.int .i64 ns,.int .i64 nf,.int .i64 nl,.int .i64 na,.int .i64 ng]:=Bk.born2 w _ _ _ _;have hrd:=clips_lit (l:= [⟨ns,nf,nl,na,ng⟩]) (cs:= [.int .i64 ns,.int .i64 nf,.int .i64 nl,.int .i64 na,.int .i64 ng]) hbk (by simp) (T.rds_cons1 xU.rd_mk);exact⟨_,rfl,hrd,HBa.o.alloc HBa.o.size _⟩
 have q1:(ek == 1)=false:=yZ k1;by_cases k2:ek=2
 ·
  have q2:(ek == 2)=true:=xA k2
  have hj:0≤ec∧ec≤(t.zS.length:Int) - 1:=by
   rw[if_neg zM,if_neg zM,if_pos zM] at hr;exact xK.1 hr
  obtain⟨j,rfl⟩: ∃ j:Nat,ec=(j:Int):=⟨ec.toNat,by omega⟩;have hjl:j<t.zS.length:=by omega
  have hgj:=gE hjl;generalize t.zS[j]=c at hgj;have hca:uS x ⟨ek,(k:Int),(j:Int),ev,⟨ns,nf,nl,na,ng⟩⟩=c:=by unfold uS;dsimp only;rw[HCLK.o,Int.toNat_natCast,List.getD_eq_getElem?_getD,hgj];rfl
  have HC:=xN (show wO x ⟨ek,(k:Int),(j:Int),ev,⟨ns,nf,nl,na,ng⟩⟩= [c] by unfold wO;rw[if_neg k1,if_pos k2,hca]);clear hca hr;obtain⟨b2,of2,cs2,hA2,hb2,hcs2,hcell2⟩:=HUX.o j c hgj;subst hA2;obtain rfl:=xU.yT (show T.rds _ _ _ by simpa only[xU.t,T.rd] using hcs2);obtain⟨e0,e1,e2,e3,e4⟩:=oc5 HBr.o hb2 hcell2;clear hcs2 hcell2;have hi2:(0:Int)≤(j:Int):=by omega
  have hi3:(j:Int)<(t.zS.length:Int):=by omega
  clear k1 k2;have HBa:=xN (HB0.o.alloc HB0.o.size (.cells #[.int .i64 ek,.int .i64 (k:Int),.int .i64 (j:Int),.int .i64 ev,.int .i64 ns,.int .i64 nf,.int .i64 nl,.int .i64 na,.int .i64 ng] 41));have HP:=xN (HK0.o.alloc (.cells #[.int .i64 ek,.int .i64 (k:Int),.int .i64 (j:Int),.int .i64 ev,.int .i64 ns,.int .i64 nf,.int .i64 nl,.int .i64 na,.int .i64 ng] 41));have HE:=xN (Bk.born1' w (.cells #[.int .i64 x.zB,(.slice va1 x.zI.length vc1),(.slice (some ⟨b,off,none⟩) x.zG.length vc2),(.slice va3 x.zL.length vc3),(.slice va4 x.zK.length vc4),(.slice va5 x.zH.zC.length vc5)] 32) 41 #[.int .i64 ek,.int .i64 (k:Int),.int .i64 (j:Int),.int .i64 ev,.int .i64 ns,.int .i64 nf,.int .i64 nl,.int .i64 na,.int .i64 ng]);have WW:=xN (rfl:((w.alloc (.cells #[.int .i64 x.zB,(.slice va1 x.zI.length vc1),(.slice (some ⟨b,off,none⟩) x.zG.length vc2),(.slice va3 x.zL.length vc3),(.slice va4 x.zK.length vc4),(.slice va5 x.zH.zC.length vc5)] 32)).alloc (.cells #[.int .i64 ek,.int .i64 (k:Int),.int .i64 (j:Int),.int .i64 ev,.int .i64 ns,.int .i64 nf,.int .i64 nl,.int .i64 na,.int .i64 ng] 41))=((w.alloc (.cells #[.int .i64 x.zB,(.slice va1 x.zI.length vc1),(.slice (some ⟨b,off,none⟩) x.zG.length vc2),(.slice va3 x.zL.length vc3),(.slice va4 x.zK.length vc4),(.slice va5 x.zH.zC.length vc5)] 32)).alloc (.cells #[.int .i64 ek,.int .i64 (k:Int),.int .i64 (j:Int),.int .i64 ev,.int .i64 ns,.int .i64 nf,.int .i64 nl,.int .i64 na,.int .i64 ng] 41)))
  go_enter Tryz.func65,Tryz.ntmps65
  have m0:=(HBa.o.cell hb1).trans d0;have lb1:=zW hb1 HBa.o.size;have m1:=(HBa.o.cell hb2).trans e0;have m2:=(HBa.o.cell hb2).trans e1;have m3:=(HBa.o.cell hb2).trans e2;have m4:=(HBa.o.cell hb2).trans e3;have m5:=(HBa.o.cell hb2).trans e4;have lb2:=zW hb2 HBa.o.size;go_wp2;go_ret
  rw[HC.o];have hbk:Bk (((w.alloc (.cells #[.int .i64 x.zB,(.slice va1 x.zI.length vc1),(.slice (some ⟨b,off,none⟩) x.zG.length vc2),(.slice va3 x.zL.length vc3),(.slice va4 x.zK.length vc4),(.slice va5 x.zH.zC.length vc5)] 32)).alloc (.cells #[.int .i64 ek,.int .i64 (k:Int),.int .i64 (j:Int),.int .i64 ev,.int .i64 ns,.int .i64 nf,.int .i64 nl,.int .i64 na,.int .i64 ng] 41)).alloc (.cells #[.int .i64 c.zV,.int .i64 c.zO,.int .i64 c.zB,.int .i64 c.yE,.int .i64 c.yB] 39)) (w.heap.size+1+1) 39 #[.int .i64 c.zV,.int .i64 c.zO,.int .i64 c.zB,.int .i64 c.yE,.int .i64 c.yB]:=Bk.born2 w _ _ _ _;have hrd:=clips_lit (l:= [c]) (cs:= [.int .i64 c.zV,.int .i64 c.zO,.int .i64 c.zB,.int .i64 c.yE,.int .i64 c.yB]) hbk (by simp) (T.rds_cons1 xU.rd_mk);exact⟨_,rfl,hrd,HBa.o.alloc HBa.o.size _⟩
 have q2:(ek == 2)=false:=yZ k2;by_cases k3:ek=3
 ·
  have q3:(ek == 3)=true:=xA k3
  have hj:0≤ec∧ec≤(t.zS.length:Int) - 1:=by
   rw[if_neg zM,if_pos zM] at hr;exact xK.1 hr.1
  obtain⟨j,rfl⟩: ∃ j:Nat,ec=(j:Int):=⟨ec.toNat,by omega⟩;have hjl:j<t.zS.length:=by omega
  have hgj:=gE hjl;generalize t.zS[j]=c at hgj;have hca:uS x ⟨ek,(k:Int),(j:Int),ev,⟨ns,nf,nl,na,ng⟩⟩=c:=by unfold uS;dsimp only;rw[HCLK.o,Int.toNat_natCast,List.getD_eq_getElem?_getD,hgj];rfl
  have HC:=xN (show wO x ⟨ek,(k:Int),(j:Int),ev,⟨ns,nf,nl,na,ng⟩⟩= [c,⟨ns,nf,nl,na,ng⟩] by unfold wO;rw[if_neg k1,if_neg k2,if_pos k3,hca]);clear hca hr;obtain⟨b2,of2,cs2,hA2,hb2,hcs2,hcell2⟩:=HUX.o j c hgj;subst hA2;obtain rfl:=xU.yT (show T.rds _ _ _ by simpa only[xU.t,T.rd] using hcs2);obtain⟨e0,e1,e2,e3,e4⟩:=oc5 HBr.o hb2 hcell2;clear hcs2 hcell2;have hi2:(0:Int)≤(j:Int):=by omega
  have hi3:(j:Int)<(t.zS.length:Int):=by omega
  clear k1 k2 k3;have HBa:=xN (HB0.o.alloc HB0.o.size (.cells #[.int .i64 ek,.int .i64 (k:Int),.int .i64 (j:Int),.int .i64 ev,.int .i64 ns,.int .i64 nf,.int .i64 nl,.int .i64 na,.int .i64 ng] 41));have HP:=xN (HK0.o.alloc (.cells #[.int .i64 ek,.int .i64 (k:Int),.int .i64 (j:Int),.int .i64 ev,.int .i64 ns,.int .i64 nf,.int .i64 nl,.int .i64 na,.int .i64 ng] 41));have HE:=xN (Bk.born1' w (.cells #[.int .i64 x.zB,(.slice va1 x.zI.length vc1),(.slice (some ⟨b,off,none⟩) x.zG.length vc2),(.slice va3 x.zL.length vc3),(.slice va4 x.zK.length vc4),(.slice va5 x.zH.zC.length vc5)] 32) 41 #[.int .i64 ek,.int .i64 (k:Int),.int .i64 (j:Int),.int .i64 ev,.int .i64 ns,.int .i64 nf,.int .i64 nl,.int .i64 na,.int .i64 ng]);have WW:=xN (rfl:((w.alloc (.cells #[.int .i64 x.zB,(.slice va1 x.zI.length vc1),(.slice (some ⟨b,off,none⟩) x.zG.length vc2),(.slice va3 x.zL.length vc3),(.slice va4 x.zK.length vc4),(.slice va5 x.zH.zC.length vc5)] 32)).alloc (.cells #[.int .i64 ek,.int .i64 (k:Int),.int .i64 (j:Int),.int .i64 ev,.int .i64 ns,.int .i64 nf,.int .i64 nl,.int .i64 na,.int .i64 ng] 41))=((w.alloc (.cells #[.int .i64 x.zB,(.slice va1 x.zI.length vc1),(.slice (some ⟨b,off,none⟩) x.zG.length vc2),(.slice va3 x.zL.length vc3),(.slice va4 x.zK.length vc4),(.slice va5 x.zH.zC.length vc5)] 32)).alloc (.cells #[.int .i64 ek,.int .i64 (k:Int),.int .i64 (j:Int),.int .i64 ev,.int .i64 ns,.int .i64 nf,.int .i64 nl,.int .i64 na,.int .i64 ng] 41)))
  go_enter Tryz.func65,Tryz.ntmps65
  have m0:=(HBa.o.cell hb1).trans d0;have lb1:=zW hb1 HBa.o.size;have m1:=(HBa.o.cell hb2).trans e0;have m2:=(HBa.o.cell hb2).trans e1;have m3:=(HBa.o.cell hb2).trans e2;have m4:=(HBa.o.cell hb2).trans e3;have m5:=(HBa.o.cell hb2).trans e4;have lb2:=zW hb2 HBa.o.size;go_wp2;have hex:=HE.o.cell;have hel:=HE.o.lt;generalize hW4:((w.alloc (.cells #[.int .i64 x.zB,(.slice va1 x.zI.length vc1),(.slice (some ⟨b,off,none⟩) x.zG.length vc2),(.slice va3 x.zL.length vc3),(.slice va4 x.zK.length vc4),(.slice va5 x.zH.zC.length vc5)] 32)).alloc (.cells #[.int .i64 ek,.int .i64 (k:Int),.int .i64 (j:Int),.int .i64 ev,.int .i64 ns,.int .i64 nf,.int .i64 nl,.int .i64 na,.int .i64 ng] 41))=W4 at *;clear hW4;refine wp_region_still_tail 7 (by kernel_rfl) (by kernel_rfl) ?_;simp only[List.take_succ_cons,List.take_zero,List.drop_succ_cons,List.drop_zero]
  change wpStill _ _ (World.drew W4) (fun a'=>wpList _ _ _ _ a' (World.drew W4)) _ _
  repeat still_step
  refine wpStill_nil ?_;clear m0 m1 m2 m3 m4 m5 hex hel;go_wp2;go_ret
  rw[HC.o];have hbk:Bk ((World.drew W4).alloc (.cells #[.int .i64 c.zV,.int .i64 c.zO,.int .i64 c.zB,.int .i64 c.yE,.int .i64 c.yB,.int .i64 ns,.int .i64 nf,.int .i64 nl,.int .i64 na,.int .i64 ng] 39)) W4.heap.size 39 #[.int .i64 c.zV,.int .i64 c.zO,.int .i64 c.zB,.int .i64 c.yE,.int .i64 c.yB,.int .i64 ns,.int .i64 nf,.int .i64 nl,.int .i64 na,.int .i64 ng]:=Bk.born (World.drew W4) _ _;have hrd:=clips_lit (l:= [c,⟨ns,nf,nl,na,ng⟩]) (cs:= [.int .i64 c.zV,.int .i64 c.zO,.int .i64 c.zB,.int .i64 c.yE,.int .i64 c.yB,.int .i64 ns,.int .i64 nf,.int .i64 nl,.int .i64 na,.int .i64 ng]) hbk (by simp) (T.rds_cons2 xU.rd_mk xU.rd_mk);exact⟨_,rfl,hrd,(HBa.o.drew.alloc (HBa.o.size) _)⟩
 have q3:(ek == 3)=false:=yZ k3;have hlf:k<x.zL.length:=by have h2:=HV.o.feed;omega
 have hgk:=gE hlf;have hfd:x.zL.getD k 0=x.zL[k]:=by rw[List.getD_eq_getElem?_getD,hgk];rfl
 generalize x.zL[k]=y at *;have HFD:=xN hfd;clear hfd hr;obtain⟨b3,of3,hA3,hb3,hcell3⟩:=HX3.o k y hgk;subst hA3;have hi2:(k:Int)<(x.zL.length:Int):=by omega
 by_cases he:ev=y
 ·
  have q4:(ev == y)=true:=xA he;have HC:=xN (show wO x ⟨ek,(k:Int),ec,ev,⟨ns,nf,nl,na,ng⟩⟩= [] by unfold wO;rw[if_neg k1,if_neg k2,if_neg k3];dsimp only;rw[Int.toNat_natCast,HFD.o,if_pos he]);clear k1 k2 k3 he;have HBa:=xN (HB0.o.alloc HB0.o.size (.cells #[.int .i64 ek,.int .i64 (k:Int),.int .i64 ec,.int .i64 ev,.int .i64 ns,.int .i64 nf,.int .i64 nl,.int .i64 na,.int .i64 ng] 41));have HP:=xN (HK0.o.alloc (.cells #[.int .i64 ek,.int .i64 (k:Int),.int .i64 ec,.int .i64 ev,.int .i64 ns,.int .i64 nf,.int .i64 nl,.int .i64 na,.int .i64 ng] 41));have HE:=xN (Bk.born1' w (.cells #[.int .i64 x.zB,(.slice va1 x.zI.length vc1),(.slice (some ⟨b,off,none⟩) x.zG.length vc2),(.slice (some ⟨b3,of3,none⟩) x.zL.length vc3),(.slice va4 x.zK.length vc4),(.slice va5 x.zH.zC.length vc5)] 32) 41 #[.int .i64 ek,.int .i64 (k:Int),.int .i64 ec,.int .i64 ev,.int .i64 ns,.int .i64 nf,.int .i64 nl,.int .i64 na,.int .i64 ng]);have WW:=xN (rfl:((w.alloc (.cells #[.int .i64 x.zB,(.slice va1 x.zI.length vc1),(.slice (some ⟨b,off,none⟩) x.zG.length vc2),(.slice (some ⟨b3,of3,none⟩) x.zL.length vc3),(.slice va4 x.zK.length vc4),(.slice va5 x.zH.zC.length vc5)] 32)).alloc (.cells #[.int .i64 ek,.int .i64 (k:Int),.int .i64 ec,.int .i64 ev,.int .i64 ns,.int .i64 nf,.int .i64 nl,.int .i64 na,.int .i64 ng] 41))=((w.alloc (.cells #[.int .i64 x.zB,(.slice va1 x.zI.length vc1),(.slice (some ⟨b,off,none⟩) x.zG.length vc2),(.slice (some ⟨b3,of3,none⟩) x.zL.length vc3),(.slice va4 x.zK.length vc4),(.slice va5 x.zH.zC.length vc5)] 32)).alloc (.cells #[.int .i64 ek,.int .i64 (k:Int),.int .i64 ec,.int .i64 ev,.int .i64 ns,.int .i64 nf,.int .i64 nl,.int .i64 na,.int .i64 ng] 41)))
  go_enter Tryz.func65,Tryz.ntmps65
  have m0:=(HBa.o.cell hb1).trans d0;have lb1:=zW hb1 HBa.o.size;have m1:=(HBa.o.cell hb3).trans hcell3;have lb3:=zW hb3 HBa.o.size;go_wp2;have g0:=xM HP.o;have g1:=xM HE.o;have g2:=yK m1;generalize ((w.alloc (.cells #[.int .i64 x.zB,(.slice va1 x.zI.length vc1),(.slice (some ⟨b,off,none⟩) x.zG.length vc2),(.slice (some ⟨b3,of3,none⟩) x.zL.length vc3),(.slice va4 x.zK.length vc4),(.slice va5 x.zH.zC.length vc5)] 32)).alloc (.cells #[.int .i64 ek,.int .i64 (k:Int),.int .i64 ec,.int .i64 ev,.int .i64 ns,.int .i64 nf,.int .i64 nl,.int .i64 na,.int .i64 ng] 41))=W4 at *;refine rB ?_
  repeat(first|go_big_quiet_skip|(go_big_quiet_want;go_big_quiet_op;go_big_quiet_on))
  refine wpQuiet_nil ?_;rintro w9 ⟨uu,rfl⟩;have hb9:=yM W4 uu;generalize bel W4 uu=w9 at *;have HB9:=xN (yO HBa.o HBa.o.size hb9);clear hb9 g0 g1 g2;go_wp2;go_ret
  rw[HC.o];exact⟨_,rfl,T.nil_rd _ _ _,HB9.o⟩
 ·
  have q4:(ev == y)=false:=yZ he;have HC:=xN (show wO x ⟨ek,(k:Int),ec,ev,⟨ns,nf,nl,na,ng⟩⟩=t.zS by unfold wO;rw[if_neg k1,if_neg k2,if_neg k3];dsimp only;rw[Int.toNat_natCast,HFD.o,if_neg he,HCLK.o]);clear k1 k2 k3 he;have HBa:=xN (HB0.o.alloc HB0.o.size (.cells #[.int .i64 ek,.int .i64 (k:Int),.int .i64 ec,.int .i64 ev,.int .i64 ns,.int .i64 nf,.int .i64 nl,.int .i64 na,.int .i64 ng] 41));have HP:=xN (HK0.o.alloc (.cells #[.int .i64 ek,.int .i64 (k:Int),.int .i64 ec,.int .i64 ev,.int .i64 ns,.int .i64 nf,.int .i64 nl,.int .i64 na,.int .i64 ng] 41));have HE:=xN (Bk.born1' w (.cells #[.int .i64 x.zB,(.slice va1 x.zI.length vc1),(.slice (some ⟨b,off,none⟩) x.zG.length vc2),(.slice (some ⟨b3,of3,none⟩) x.zL.length vc3),(.slice va4 x.zK.length vc4),(.slice va5 x.zH.zC.length vc5)] 32) 41 #[.int .i64 ek,.int .i64 (k:Int),.int .i64 ec,.int .i64 ev,.int .i64 ns,.int .i64 nf,.int .i64 nl,.int .i64 na,.int .i64 ng]);have WW:=xN (rfl:((w.alloc (.cells #[.int .i64 x.zB,(.slice va1 x.zI.length vc1),(.slice (some ⟨b,off,none⟩) x.zG.length vc2),(.slice (some ⟨b3,of3,none⟩) x.zL.length vc3),(.slice va4 x.zK.length vc4),(.slice va5 x.zH.zC.length vc5)] 32)).alloc (.cells #[.int .i64 ek,.int .i64 (k:Int),.int .i64 ec,.int .i64 ev,.int .i64 ns,.int .i64 nf,.int .i64 nl,.int .i64 na,.int .i64 ng] 41))=((w.alloc (.cells #[.int .i64 x.zB,(.slice va1 x.zI.length vc1),(.slice (some ⟨b,off,none⟩) x.zG.length vc2),(.slice (some ⟨b3,of3,none⟩) x.zL.length vc3),(.slice va4 x.zK.length vc4),(.slice va5 x.zH.zC.length vc5)] 32)).alloc (.cells #[.int .i64 ek,.int .i64 (k:Int),.int .i64 ec,.int .i64 ev,.int .i64 ns,.int .i64 nf,.int .i64 nl,.int .i64 na,.int .i64 ng] 41)))
  go_enter Tryz.func65,Tryz.ntmps65
  have m0:=(HBa.o.cell hb1).trans d0;have lb1:=zW hb1 HBa.o.size;have m1:=(HBa.o.cell hb3).trans hcell3;have lb3:=zW hb3 HBa.o.size;go_wp2;have g0:=xM HP.o;have g1:=xM HE.o;have g2:=yK m1;generalize ((w.alloc (.cells #[.int .i64 x.zB,(.slice va1 x.zI.length vc1),(.slice (some ⟨b,off,none⟩) x.zG.length vc2),(.slice (some ⟨b3,of3,none⟩) x.zL.length vc3),(.slice va4 x.zK.length vc4),(.slice va5 x.zH.zC.length vc5)] 32)).alloc (.cells #[.int .i64 ek,.int .i64 (k:Int),.int .i64 ec,.int .i64 ev,.int .i64 ns,.int .i64 nf,.int .i64 nl,.int .i64 na,.int .i64 ng] 41))=W4 at *;refine rB ?_
  repeat(first|go_big_quiet_skip|(go_big_quiet_want;go_big_quiet_op;go_big_quiet_on))
  refine wpQuiet_nil ?_;rintro w9 ⟨uu,rfl⟩;have hb9:=yM W4 uu;generalize bel W4 uu=w9 at *;have HB9:=xN (yO HBa.o HBa.o.size hb9);clear hb9 g0 g1 g2;go_wp2;go_ret
  rw[HC.o];exact⟨_,rfl,T.yJ RY0.o HB9.o,HB9.o⟩
end
section
open Go.RowKit
theorem changed_at {s:xO} {e:wV} (hv:xW s) (hf:wH e) (hr:xZ s e) (h5:e.zD≠5): ∀ c ∈ wO s e,0≤c.yE:=by
 intro c hc;obtain⟨k,t,hk,ht⟩:=vV hr h5;have tk:=(hv.tracks k t ht).1
 have hin: ∀ x ∈ t.zS,0≤x.yE:=fun x hx=>by
  obtain⟨i,hi⟩:=List.mem_iff_getElem?.1 hx;have:=wY.1 (tk.clips i x hi).1.at_
  omega
 have hca:uS s e ∈ t.zS∨0≤(uS s e).yE:=by
  unfold uS;rw[hk,wU ht,List.getD_eq_getElem?_getD]
  cases hg:t.zS[e.yG.toNat]? with
  |none=>exact .inr (by simp[yXz])
  |some x=>exact .inl (by simpa using List.mem_of_getElem? hg)
 have hcl:0≤(uS s e).yE:=hca.elim (fun h=>hin _ h) id
 have hnew:e.zD=1∨e.zD=3→0≤e.yC.yE:=fun h=>by
  unfold wH at hf;rw[if_pos h] at hf;have:=wY.1 hf.2.at_
  omega
 unfold wO at hc
 split at hc
 ·next h=>simp at hc;subst hc;exact hnew (.inl h)
 ·split at hc
  ·simp at hc;subst hc;exact hcl
  ·split at hc
   ·next h=>
    simp at hc
    rcases hc with rfl|rfl
    ·exact hcl
    ·exact hnew (.inr h)
   ·split at hc
    ·simp at hc
    ·rw[hk,wU ht] at hc
     exact hin c hc
theorem lowF_ge0: ∀ {l:List xU} {a:Int},0≤a→(∀ c ∈ l,0≤c.yE)→0≤lowF a l
 | [],a,h,_=>h
 |c :: r,a,h,hl=>by
  show 0≤lowF (min a c.yE) r
  have:=hl c (by simp);exact lowF_ge0 zM (fun x hx=>hl x (by simp[hx]))
theorem spanF_ge0 {l:List xU} (hl: ∀ c ∈ l,0≤c.yE):0≤(uV l).1:=by
 cases l with
 |nil=>exact Int.le_refl _
 |cons c r=>exact lowF_ge0 (hl c (by simp)) hl
theorem rangeOf_in {s:xO} {e:wV} (hv:xW s) (hf:wH e) (hr:xZ s e):0≤(vH s e).1∧(vH s e).1≤(vH s e).2∧(vH s e).2≤s.zB∧((vH s e).1=(vH s e).2→(vH s e).2=0):=by
 have hl:=wY.1 hv.length;unfold vH;by_cases h5:e.zD=5
 ·rw[if_pos h5];dsimp only;omega
 ·rw[if_neg h5]
  have hc:=spanF_ge0 (changed_at hv hf hr h5)
  split
  ·dsimp only;omega
  ·generalize (if tf (xDz s e)=true then s.zB else (uV (wO s e)).2)=m
   by_cases h:(uV (wO s e)).1<min m s.zB
   ·rw[if_pos h];dsimp only;omega
   ·rw[if_neg h];dsimp only;omega
end
end Go.Proofs.YtdcofkabaigjpaaGreat
