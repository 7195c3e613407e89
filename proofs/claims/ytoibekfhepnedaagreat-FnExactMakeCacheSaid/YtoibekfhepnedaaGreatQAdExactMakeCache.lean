/- Laws for data that a call lays anew: blocks in order, elements stored one by one. No program is named here. Contracts: what is valid, by the program: mixers. Contracts: what is valid, by the program: kinds, nodes. -/
import Derived.Test.YtoibekfhepnedaaGreatQAaExactMakeCache
import Derived.Test.YtoibekfhepnedaaGreatQAcExactMakeCache
import Derived.Maps.OwnOps
import Derived.Maps.Views
import Derived.Deep.RegionWith
set_option linter.unusedVariables false
set_option linter.unusedSimpArgs false
set_option maxHeartbeats 2000000
set_option maxRecDepth 20000
namespace Go.Proofs.YtoibekfhepnedaaGreat
section
open Go.RowKit
/-- Lists of blocks, one behind the other, from lo on and below hi. -/
def Sg:Nat→Nat→List (List Nat)→Prop
 |lo,hi,[]=>lo≤hi
 |lo,hi,F :: r=> ∃ m,lo≤m∧F.Nodup∧(∀ b ∈ F,lo≤b∧b<m)∧Sg m hi r
theorem Sg.le: ∀ {lo hi:Nat} {xs:List (List Nat)},Sg lo hi xs→lo≤hi
 |_,_,[],h=>h
 |_,_,_ :: _,⟨_,h1,_,_,h2⟩=>Nat.le_trans h1 (Sg.le h2)
theorem Sg.app: ∀ {a b c:Nat} {xs ys:List (List Nat)},Sg a b xs→Sg b c ys→Sg a c (xs++ys)
 |a,b,c,[],[],h,k=>Nat.le_trans h k
 |a,b,c,[],F :: r,h,⟨m,h1,h2,h3,h4⟩=>⟨m,Nat.le_trans h h1,h2,fun x hx=>⟨Nat.le_trans h (h3 x hx).1,(h3 x hx).2⟩,h4⟩
 |a,b,c,F :: r,ys,⟨m,h1,h2,h3,h4⟩,k=>⟨m,h1,h2,h3,Sg.app h4 k⟩
theorem Sg.more: ∀ {a a' b:Nat} {xs:List (List Nat)},Sg a b xs→a'≤a→Sg a' b xs
 |_,_,_,[],h,k=>Nat.le_trans k h
 |_,_,_,_ :: _,⟨m,h1,h2,h3,h4⟩,k=>⟨m,Nat.le_trans k h1,h2,fun x hx=>⟨Nat.le_trans k (h3 x hx).1,(h3 x hx).2⟩,h4⟩
theorem Sg.all: ∀ {lo hi:Nat} {xs:List (List Nat)},Sg lo hi xs→xs.flatten.Nodup∧ ∀ b ∈ xs.flatten,lo≤b∧b<hi
 |_,_,[],_=>by simp
 |lo,hi,F :: r,⟨m,h1,h2,h3,h4⟩=>by
  obtain⟨k1,k2⟩:=Sg.all h4
  have hm:=Sg.le h4
  refine⟨?_,?_⟩
  ·rw[List.flatten_cons]
   exact nodup_lo h2 k1 (fun b hb=>(h3 b hb).2) (fun b hb=>(k2 b hb).1)
  ·intro b hb
   rw[List.flatten_cons] at hb
   rcases List.mem_append.1 hb with hb|hb
   ·have:=h3 b hb;exact⟨this.1,by omega⟩
   ·have:=k2 b hb;exact⟨by omega,this.2⟩
theorem Nv.sg {w w':World} {x:T} {F:List Nat} {v:Value} (h:Nv w w' x F v):Sg w.heap.size w'.heap.size [F]:=
 ⟨w'.heap.size,h.below.size,h.nodup,fun b hb=>⟨h.lo b hb,h.lt b hb⟩,Nat.le_refl _⟩
theorem nf {F:List Nat} {lo g:Nat} (h: ∀ b ∈ F,lo≤b) (hg:g<lo):g ∉ F:=fun hm=>by have:=h g hm;omega
theorem Bk.born1' (w:World) (o:Obj) (t:TypeId) (cs:Array Value):Bk ((w.alloc o).alloc (.cells cs t)) (w.heap.size+1) t cs:=by
 have:=Bk.born (w.alloc o) t cs
 simpa using this
theorem Bk.born2 (w:World) (o o2:Obj) (t:TypeId) (cs:Array Value):Bk (((w.alloc o).alloc o2).alloc (.cells cs t)) (w.heap.size+2) t cs:=by
 have:=Bk.born ((w.alloc o).alloc o2) t cs
 simpa using this
/-- Cells stored one behind the other. -/
def setsW (w:World) (g:Nat):Nat→List Value→World
 |_,[]=>w
 |p,u :: us=>setsW (w.setCell ⟨g,p,none⟩ u) g (p+1) us
def setsL (es:List Value):Nat→List Value→List Value
 |_,[]=>es
 |p,u :: us=>setsL (es.set p u) (p+1) us
theorem grown_set1 (w:World) (g o:Nat) (u:Value):w.grownBy (w.setCell ⟨g,o,none⟩ u) (some g):=
 ⟨rfl,rfl,rfl,by simp[World.setCell],fun k _ hne=>Below.heap_setCell w _ u k (fun e=>hne (by rw[e]))⟩
theorem own_sets {B E sz n g cap:Nat} : ∀ (us:List Value) (w:World) (p:Nat) (es:List Value),w.ownsRow B E sz (.slice (some ⟨g,0,none⟩) n cap) n es→
  (setsW w g p us).ownsRow B E sz (.slice (some ⟨g,0,none⟩) n cap) n (setsL es p us)∧w.grownBy (setsW w g p us) (some g)
 | [],w,p,es,h=>⟨h,World.grownBy.refl _ _⟩
 |u :: us,w,p,es,h=>by
  obtain⟨h1,h2⟩:=own_sets us (w.setCell ⟨g,p,none⟩ u) (p+1) (es.set p u) (World.ownsRow.stored h p u).1
  exact⟨h1,(grown_set1 w g p u).trans h2⟩
theorem setsL_mid: ∀ (us zs c1 c2:List Value),us.length=zs.length→setsL (c1++(zs++c2)) c1.length us=c1++(us++c2)
 | [],[],c1,c2,_=>rfl
 |u :: us,z :: zs,c1,c2,h=>by
  have e:(c1++((z :: zs)++c2)).set c1.length u=(c1++ [u])++(zs++c2):=by
   rw[List.set_append_right _ _ (Nat.le_refl _),Nat.sub_self]
   simp
  have:=setsL_mid us zs (c1++ [u]) c2 (by simpa using h)
  simp only[setsL]
  rw[e]
  rw[List.length_append,List.length_singleton] at this
  rw[this]
  simp
theorem cut_len {α:Type} {l:List α} {n:Nat} (h:n≤l.length): ∃ a b,l=a++b∧a.length=n:=⟨l.take n,l.drop n,(List.take_append_drop n l).symm,by rw[List.length_take];omega⟩
theorem len1 {α:Type} {l:List α} (h:l.length=1): ∃ a,l= [a]:=by match l,h with| [a],_=>exact⟨a,rfl⟩
theorem len2 {α:Type} {l:List α} (h:l.length=2): ∃ a b,l= [a,b]:=by match l,h with| [a,b],_=>exact⟨a,b,rfl⟩
theorem len3 {α:Type} {l:List α} (h:l.length=3): ∃ a b c,l= [a,b,c]:=by match l,h with| [a,b,c],_=>exact⟨a,b,c,rfl⟩
theorem len4 {α:Type} {l:List α} (h:l.length=4): ∃ a b c d,l= [a,b,c,d]:=by match l,h with| [a,b,c,d],_=>exact⟨a,b,c,d,rfl⟩
theorem len5 {α:Type} {l:List α} (h:l.length=5): ∃ a b c d e,l= [a,b,c,d,e]:=by match l,h with| [a,b,c,d,e],_=>exact⟨a,b,c,d,e,rfl⟩
theorem vJ {w:World} {B E sz n g cap:Nat} {c1 zs c2:List Value} (h:w.ownsRow B E sz (.slice (some ⟨g,0,none⟩) n cap) n (c1++(zs++c2))) {j:Nat} {u:Value} (hj:zs[j]?=some u):w.cell? ⟨g,c1.length+j,none⟩=some u:=by
 have hl:=(List.getElem?_eq_some_iff.1 hj).1
 rw[World.ownsRow.cellAt h (c1.length+j) (by rw[←h.1];simp;omega)]
 rw[List.getElem?_append_right (by omega),Nat.add_sub_cancel_left,List.getElem?_append_left hl]
 exact hj
theorem yU {w:World} {B E sz n g cap:Nat} {es:List Value} (h:w.ownsRow B E sz (.slice (some ⟨g,0,none⟩) n cap) n es) (j:Nat):w.frozen? ⟨g,j,none⟩=false:=World.ownsRow.frozenAt h j
theorem T.ows_snoc {w:World} {xs:List T} {x:T} {F F':List Nat} {c1 c2:List Value} (h:T.ows w xs F c1) (k:T.ow w x F' c2):T.ows w (xs++ [x]) (F++F') (c1++c2):=
 (T.ows_app xs [x] _ _).2 ⟨F,F',c1,c2,rfl,rfl,h,by simp only[T.ows];exact⟨F',[],c2,[],by simp,by simp,k,rfl,rfl⟩⟩
theorem T.ows_grown {w w':World} {xs:List T} {F:List Nat} {cs:List Value} {g:Nat} (h:T.ows w xs F cs) (hg:w.grownBy w' (some g)) (hn:g ∉ F):T.ows w' xs F cs:=
 T.ows_keep xs F cs (fun b hb=>hg.block b (T.ows_lt xs F cs h b hb) (fun e=>hn (by injection e with e;rw[←e];exact hb))) h
theorem T.ow_grown {w w':World} {x:T} {F:List Nat} {cs:List Value} {g:Nat} (h:T.ow w x F cs) (hg:w.grownBy w' (some g)) (hn:g ∉ F):T.ow w' x F cs:=
 T.ow_keep x F cs (fun b hb=>hg.block b (T.ow_lt x F cs h b hb) (fun e=>hn (by injection e with e;rw[←e];exact hb))) h
/-- The row being filled: the first k elements are laid. -/
structure Fil (w0 wr:World) (E sz n:Nat) (xs:List T) (G:List Nat) (c1 c2:List Value):Prop where
 own:wr.ownsRow 0 E sz (.slice (some ⟨w0.heap.size,0,none⟩) n n) n (c1++c2)
 ows:T.ows wr xs G c1
 nodup:G.Nodup
 lo: ∀ b ∈ G,w0.heap.size+1≤b
 below:Below w0.heap.size w0 wr
theorem Fil.len {w0 wr:World} {E sz n:Nat} {xs:List T} {G:List Nat} {c1 c2:List Value} (h:Fil w0 wr E sz n xs G c1 c2) (hw: ∀ x ∈ xs,T.wide x=sz):c1.length=xs.length * sz:=by
 rw[T.ows_len h.ows,T.wides_mul xs hw]
/-- A call that lays memory leaves the row as it is. -/
theorem Fil.call {w0 wr w1:World} {E sz n:Nat} {xs:List T} {G:List Nat} {c1 c2:List Value} (h:Fil w0 wr E sz n xs G c1 c2) (hb:Below wr.heap.size wr w1):Fil w0 w1 E sz n xs G c1 c2:=
 ⟨wO h.own hb,T.ows_all h.ows hb,h.nodup,h.lo,yJ h.below h.below.size hb⟩
/-- One element more. -/
theorem Fil.step {w0 wr w1:World} {E sz n:Nat} {xs:List T} {G F:List Nat} {c1 zs c2 us:List Value} {x:T} (h:Fil w0 w1 E sz n xs G c1 (zs++c2)) (hl:us.length=zs.length)
  (hs:w0.heap.size+1≤wr.heap.size) (hx:T.ow w1 x F us) (hF:F.Nodup) (hF2: ∀ b ∈ F,wr.heap.size≤b) (hG: ∀ b ∈ G,b<wr.heap.size):
  Fil w0 (setsW w1 w0.heap.size c1.length us) E sz n (xs++ [x]) (G++F) (c1++us) c2:=by
 obtain⟨h1,h2⟩:=own_sets us w1 c1.length _ h.own
 rw[setsL_mid us zs c1 c2 hl,←List.append_assoc] at h1
 have hgG:w0.heap.size ∉ G:=nf h.lo (by omega)
 have hgF:w0.heap.size ∉ F:=nf hF2 (by omega)
 refine⟨h1,T.ows_snoc (T.ows_grown h.ows h2 hgG) (T.ow_grown hx h2 hgF),nodup_lo h.nodup hF hG hF2,?_,h.below.grown h2 h.below.size (fun k hk=>by injection hk with hk;omega)⟩
 intro b hb
 rcases List.mem_append.1 hb with hb|hb
 ·exact h.lo b hb
 ·have:=hF2 b hb;omega
theorem Fil.done {w0 wr:World} {E sz n:Nat} {xs:List T} {G:List Nat} {c1:List Value} (h:Fil w0 wr E sz n xs G c1 []) (hw: ∀ x ∈ xs,T.wide x=sz) (hn:xs.length=n):
  Nv w0 wr (.sl E sz xs) (w0.heap.size :: G) (.slice (some ⟨w0.heap.size,0,none⟩) n n):=by
 have ho:=h.own
 rw[List.append_nil] at ho
 refine⟨?_,?_,?_,h.below⟩
 ·simp only[T.ow]
  exact⟨_,c1,G,rfl,rfl,hw,by rw[hn];exact ho,h.ows⟩
 ·rw[List.nodup_cons];exact⟨nf h.lo (by omega),h.nodup⟩
 ·intro b hb
  rcases List.mem_cons.1 hb with rfl|hb
  ·exact Nat.le_refl _
  ·have:=h.lo b hb;omega
theorem Fil.lt {w0 wr:World} {E sz n:Nat} {xs:List T} {G:List Nat} {c1 c2:List Value} (h:Fil w0 wr E sz n xs G c1 c2): ∀ b ∈ G,b<wr.heap.size:=T.ows_lt _ _ _ h.ows
theorem Fil.up {w0 wr:World} {E sz n:Nat} {xs:List T} {G:List Nat} {c1 c2:List Value} (h:Fil w0 wr E sz n xs G c1 c2):w0.heap.size+1≤wr.heap.size:=by
 have:=(h.own.lt w0.heap.size rfl).2;omega
theorem Fil.born {w0 w1:World} {E sz n:Nat} {es:List Value} (h:w1.ownsRow w0.heap.size E sz (.slice (some ⟨w0.heap.size,0,none⟩) n n) n es) (hg:w0.grownBy w1 none):Fil w0 w1 E sz n [] [] [] es:=
 ⟨wH h (Nat.zero_le _),T.c_oe,by simp,by simp,(Below.refl _ _).grown hg (Nat.le_refl _) (by simp)⟩
theorem Fil.rest {w0 wr:World} {E sz n:Nat} {xs:List T} {G:List Nat} {c1 c2:List Value} (h:Fil w0 wr E sz n xs G c1 c2) (hw: ∀ x ∈ xs,T.wide x=sz):c2.length=n * sz - xs.length * sz:=by
 have h1:=h.own.1
 have h2:=h.len hw
 rw[List.length_append] at h1
 omega
theorem T.yV {w:World} {E:TypeId} {sz:Nat} {xs:List T} {u:Value} (h:T.rd w (.sl E sz xs) [u]): ∃ A l c,u= .slice A l c:=by
 obtain⟨A,cap,rfl,_⟩:=T.yO h
 exact⟨_,_,_,rfl⟩
theorem T.yX {w:World} {E:TypeId} {sz:Nat} {xs:List T} {F:List Nat} {u:Value} (h:T.ow w (.sl E sz xs) F [u]): ∃ A l c,u= .slice A l c:=T.yV (T.ow_rd _ _ _ h)
end
section
open Go.RowKit Go.WideMaps Go.Maps
theorem lookup_bool {P:Program} {k e t:TypeId} {w:World} {b n:Nat} {D:DataW Unit} (h:w.ownsMap P k (plainElem (H:=Unit) P e) b n D) (K:Keyed P k) (ht:P.underlying t=some (.map k e)) (he:P.underlying e=some .bool) (hz:(zeroValue e).run P w= .ok (.bool false) w)
  {key:Value} {kl:Lit} (hkey:keyOf P k key=some kl): ∃ c,(Instr.lookup t (.map (some b)) key false).run P w= .ok (.bool c) w∧D.atKey kl (.lit (.bool false))= .lit (.bool c):=by
 obtain⟨v,ps,hrun,hv⟩:=h.lookup K ht hz (plainElem_bool he false) hkey
 unfold plainElem at hv
 rw[he] at hv
 cases v<;>simp at hv
 exact⟨_,hrun,hv.1.symm⟩
theorem key_s:Keyed Tryz.prog 9:=string_keyed Tryz.underlying9
theorem grown_of_below {w w':World} (h:Below w.heap.size w w') (row:Option Nat):w.grownBy w' row:=⟨h.os,h.tape,h.output,h.size,fun k hk _=>h.block k hk⟩
theorem lit_s_ne {s t:ByteArray} (h:s≠t):(Lit.string s.data.toList)≠Lit.string t.data.toList:=by
 intro e
 injection e with e
 exact h (ByteArray.ext (Array.toList_inj.1 e))
/-- The names of the first strips. -/
def Nms (xs:List xH) (k:Nat) (D:DataW Unit):Prop:=IsMap D∧ ∀ s:ByteArray,D.atKey (.string s.data.toList) (.lit (.bool false))= .lit (.bool (tf (∃ j y,j<k∧xs[j]?=some y∧y.zV=s)))
theorem Nms.zero (xs:List xH):Nms xs 0 (.map []):=by
 refine⟨isMap_empty,fun s=>?_⟩
 rw[yZ (by rintro⟨j,y,h,_⟩;omega)]
 rfl
theorem Nms.step {xs:List xH} {k:Nat} {D:DataW Unit} {x:xH} (h:Nms xs k D) (hx:xs[k]?=some x) (hk:WideAt.IsKeyLit (.string x.zV.data.toList)):Nms xs (k+1) (D.put (.string x.zV.data.toList) (.lit (.bool true))):=by
 refine⟨h.1.put _ _,fun s=>?_⟩
 by_cases e:s=x.zV
 ·subst e
  rw[atKey_put_same h.1 hk,xA ⟨k,x,by omega,hx,rfl⟩]
 ·rw[atKey_put_other (lit_s_ne e),h.2 s]
  refine congrArg (fun b=>DataW.lit (Lit.bool b)) ?_
  apply tf_iff
  constructor
  ·rintro⟨j,y,h1,h2,h3⟩;exact⟨j,y,by omega,h2,h3⟩
  ·rintro⟨j,y,h1,h2,h3⟩
   by_cases ej:j=k
   ·subst ej
    rw[hx] at h2
    injection h2 with h2
    subst h2
    exact absurd h3.symm e
   ·exact⟨j,y,by omega,h2,h3⟩
theorem c_isMixer (x:xU) (cs:List Value) (w:World) (hn:x.zC.length≤1048576) (h:T.rds w x.fs cs):Calls Tryz.prog 104 #[.agg cs.toArray] w fun e w'=>e= .returned (.bool (tf (vU x)))∧Below w.heap.size w w':=by
 obtain⟨v0,rfl,h0⟩:=xU.yO h
 clear h
 have R0:=hide h0;obtain⟨va0,vc0,rfl,vl0,vm0,vx0⟩:=T.yN h0
 have HX0:=hide vx0;clear vx0 h0
 have HB0:=hide (show Below w.heap.size w (w.alloc (.cells #[(.slice va0 x.zC.length vc0)] 30)) from(Below.refl _ _).alloc (Nat.le_refl _) _)
 have HK0:=hide (Bk.born w 30 #[(.slice va0 x.zC.length vc0)])
 have hmm:= @run_makeMap Tryz.prog
 have HB1:=hide (show Below w.heap.size w ((w.alloc (.cells #[(.slice va0 x.zC.length vc0)] 30)).alloc (.map #[] 0)) from HB0.out.alloc (by simp) _)
 have HK1:=hide (HK0.out.alloc (.map #[] 0))
 have e1:(w.alloc (.cells #[(.slice va0 x.zC.length vc0)] 30)).heap.size=w.heap.size+1:=by simp
 have hm1:((w.alloc (.cells #[(.slice va0 x.zC.length vc0)] 30)).alloc (.map #[] 0)).ownsMap Tryz.prog 9 (plainElem (H:=Unit) Tryz.prog 4) (w.heap.size+1) 0 (.map []):=by have:=World.ownsMap_made (w.alloc (.cells #[(.slice va0 x.zC.length vc0)] 30)) Tryz.prog 9 (plainElem (H:=Unit) Tryz.prog 4);rwa [e1] at this
 have HM1:=hide hm1;clear hm1 e1
 go_enter Tryz.func104,Tryz.ntmps104
 go_wp2_with (go_at_call 102;refine(uB _ _ _ _ (by omega)).mono ?_;rintro e w' ⟨rfl,rfl⟩)
 go_loopw [14] (fun i wr=> ∃ (k:Nat) (D:DataW Unit),k≤x.zC.length∧i= .int .i64 k∧wr.ownsMap Tryz.prog 9 (plainElem (H:=Unit) Tryz.prog 4) (w.heap.size+1) k D∧Nms x.zC k D∧vI x.zC (fun i x_1=>StripOk x_1 (i:Int) (x.zC.length:Int)∧ ∀ j y,j<i→x.zC[j]?=some y→y.zV≠x_1.zV) k∧Bk wr w.heap.size 30 #[(.slice va0 x.zC.length vc0)]∧Below w.heap.size w wr) (fun i _=>x.zC.length - (intOf i).toNat)
 case atStart=>exact⟨0,_,Nat.zero_le _,rfl,HM1.out,Nms.zero _,vI.zero,HK1.out,HB1.out⟩
 case round=>
  obtain⟨k,D,hk,rfl,hm,hnm,hs,hbk,hbw⟩:=hrel
  have HM:=hide hm;have HN:=hide hnm;have HS:=hide hs;have HK:=hide hbk;have HB:=hide hbw;clear hm hnm hs hbk hbw
  have ka:=HK.out.cell;have la:=HK.out.lt;have hsz:=HB.out.size;have lm:=HM.out.lt
  by_cases hlt:k<x.zC.length
  rotate_left
  ·have hall:=hide (HS.out.all (by omega));clear HS
   go_wp2_with (go_at_call 89;refine(xS _ _ _ _).mono ?_;rintro e w' ⟨rfl,rfl⟩)
   go_ret
   exact⟨yI (by
   by_cases h:1≤x.zC.length∧x.zC.length≤8
   ·rw[xA ⟨h.1,h.2,hall.out⟩];exact xC.2 (by omega)
   ·rw[yZ fun hh=>h ⟨hh.some_,hh.few⟩];exact inB_false.2 (by omega)),HB.out⟩
  have hgk:=gE hlt
  obtain⟨b1,off,cs1,hA,hb1,hcs,hcell⟩:=HX0.out k x.zC[k] hgk
  subst hA
  generalize x.zC[k]=y at *
  have HG:=hide hgk;clear hgk
  obtain⟨u2,rfl,hRY2⟩:=xH.yO (show T.rds _ _ _ by simpa only[xH.t,T.rd] using hcs)
  have d0:=(HB.out.cell hb1).trans (hcell 0 (.string y.zV) rfl)
  have d1:=(HB.out.cell hb1).trans (hcell 1 (.int .i64 y.zI) rfl)
  have d2:=(HB.out.cell hb1).trans (hcell 2 (u2) rfl)
  rw[show off+(k * 3+0)=off+k * 3 by omega] at d0
  rw[show off+(k * 3+1)=off+k * 3+1 by omega] at d1
  rw[show off+(k * 3+2)=off+k * 3+2 by omega] at d2
  have RY2:=hide (T.yF hRY2 HB.out);clear hRY2
  clear hcs hcell
  obtain⟨ua2,ul2,uc2,rfl⟩:=T.yV RY2.out
  have hq1:b1<wr.heap.size:=lL hb1 HB.out.size
  have HW:=hide (show Below wr.heap.size wr (wr.alloc (.cells #[.string y.zV,.int .i64 y.zI,.slice ua2 ul2 uc2] 101)) from(Below.refl _ _).alloc (Nat.le_refl _) _)
  have HBW:=hide (yJ HB.out HB.out.size HW.out)
  by_cases q1:NameOk y.zV
  rotate_left
  ·have a1:=yZ q1;have Q1:=hide q1;clear q1
   go_wp2_with (go_at_call 160;refine(c_IsName _ _).mono ?_;rintro e w' ⟨rfl,rfl⟩;rw[a1])
   go_ret
   exact⟨yI (yZ fun h=>Q1.out (h.each k y HG.out).1.name).symm,HBW.out⟩
  have a1:=xA q1;have Q1:=hide q1;clear q1
  have hz:(zeroValue 4).run Tryz.prog (wr.alloc (.cells #[.string y.zV,.int .i64 y.zI,.slice ua2 ul2 uc2] 101))= .ok (.bool false) (wr.alloc (.cells #[.string y.zV,.int .i64 y.zI,.slice ua2 ul2 uc2] 101)):=by kernel_rfl
  have hsn:y.zV.size≤maxLen:=by have:=Q1.out.few;unfold maxLen;omega
  have hkey:=keyOf_string_mk Tryz.underlying9 hsn
  obtain⟨c,hrun,hat⟩:=lookup_bool (HM.out.alloc (.cells #[.string y.zV,.int .i64 y.zI,.slice ua2 ul2 uc2] 101)) key_s Tryz.underlying207 Tryz.underlying4 hz hkey
  rw[HN.out.2 y.zV] at hat
  injection hat with hat;injection hat with hat
  have HKEY:=hide hkey;clear hkey hz hsn
  by_cases q2: ∃ j z,j<k∧x.zC[j]?=some z∧z.zV=y.zV
  ·rw[xA q2] at hat;subst hat
   have Q2:=hide q2;clear q2
   go_wp2_with (go_at_call 160;refine(c_IsName _ _).mono ?_;rintro e w' ⟨rfl,rfl⟩;rw[a1])
   go_ret
   exact⟨yI (yZ fun h=>by obtain⟨j,z,h1,h2,h3⟩:=Q2.out;exact(h.each k y HG.out).2 j z h1 h2 h3).symm,HBW.out⟩
  rw[yZ q2] at hat;subst hat;have Q2:=hide q2;clear q2
  by_cases q3:inB y.zI 0 32=true
  rotate_left
  ·have q3':inB y.zI 0 32=false:=by simpa using q3
   go_wp2_with (first|(go_at_call 160;refine(c_IsName _ _).mono ?_;rintro e w' ⟨rfl,rfl⟩;rw[a1])|(go_at_call 89;refine(xS _ _ _ _).mono ?_;rintro e w' ⟨rfl,rfl⟩))
   go_ret
   exact⟨yI (yZ fun h=>q3 (h.each k y HG.out).1.latency).symm,HBW.out⟩
  go_wp2_with (first|(go_at_call 160;refine(c_IsName _ _).mono ?_;rintro e w' ⟨rfl,rfl⟩;rw[a1])|(go_at_call 89;refine(xS _ _ _ _).mono ?_;rintro e w' ⟨rfl,rfl⟩))
  refine(c_areSends _ y.zM (k:Int) (x.zC.length:Int) _ (by omega) (by omega) (by omega) (by omega) (T.yF RY2.out HW.out)).mono ?_;rintro e w3 ⟨rfl,hb3⟩
  have HM3:=hide ((HM.out.alloc (.cells #[.string y.zV,.int .i64 y.zI,.slice ua2 ul2 uc2] 101)).kept (grown_of_below hb3 none) (by simp))
  have HK3:=hide ((HK.out.alloc (.cells #[.string y.zV,.int .i64 y.zI,.slice ua2 ul2 uc2] 101)).below hb3 (by simp;omega))
  have HN3:=hide ((Bk.born wr 101 #[.string y.zV,.int .i64 y.zI,.slice ua2 ul2 uc2]).below hb3 (by simp))
  have HB3:=hide (yJ HBW.out HBW.out.size hb3);clear hb3 ka la lm hsz hrun
  have ka:=HK3.out.cell;have kn:=HN3.out.cell;have hsz:=HB3.out.size
  by_cases q4:SendsOk y.zM (k:Int) (x.zC.length:Int)
  rotate_left
  ·rw[yZ q4];have Q4:=hide q4;clear q4
   go_wp2
   go_ret
   exact⟨yI (yZ fun h=>Q4.out (h.each k y HG.out).1.sends).symm,HB3.out⟩
  rw[xA q4];have Q4:=hide q4;have Q3:=hide q3;clear q4 q3
  go_wp2_with (at_mapUpdate;refine wpList_mapUpdate_own _ rfl _ _ _ _ rfl _ _ key_s Tryz.underlying207 _ _ _ _ rfl HM3.out (by unfold maxLen;omega) _ _ _ rfl rfl HKEY.out _ [] (plainElem_bool Tryz.underlying4 true) ?_;intro w5 hown5 hg5;have HM5:=hide hown5;have HK5:=hide (HK3.out.grown hg5 (by simp));have HB5:=hide (HB3.out.grown hg5 HB3.out.size (fun j hj=>by cases hj;omega));clear hown5 hg5)
  go_roundw
  case rel=>exact⟨k+1,_,by omega,by go_num,HM5.out,HN.out.step HG.out trivial,HS.out.step HG.out ⟨⟨Q1.out,Q3.out,Q4.out⟩,fun j z h1 h2 h3=>Q2.out ⟨j,z,h1,h2,h3⟩⟩,HK5.out,HB5.out⟩
  case measure=>simp[intOf];omega
end
section
open Go.RowKit
def kndNames:List (List UInt8):= [[105,110,112,117,116],[99,111,110,115,116],[97,100,100],[115,117,98],[103,97,105,110],[100,101,108,97,121],[115,117,109],[100,105,102,102],[109,117,108],[115,104,105,102,116],[99,108,105,112],[112,104,97,115,101],[116,97,98,108,101],[110,111,105,115,101],[115,101,108,101,99,116],[104,111,108,100],[99,111,109,98]]
def kndName (i:Nat):ByteArray:=⟨(kndNames.getD i []).toArray⟩
def kndCells:Array Value:= #[.string ⟨#[105,110,112,117,116]⟩,.int .i64 0,.int .i64 0,.int .i64 3,.bool true,.bool false,.string ⟨#[99,111,110,115,116]⟩,.int .i64 0,.int .i64 (-2147483648),.int .i64 2147483647,.bool false,.bool false,.string ⟨#[97,100,100]⟩,.int .i64 2,.int .i64 1,.int .i64 0,.bool true,.bool false,.string ⟨#[115,117,98]⟩,.int .i64 2,.int .i64 1,.int .i64 0,.bool true,.bool false,.string ⟨#[103,97,105,110]⟩,.int .i64 1,.int .i64 (-2147483648),.int .i64 2147483647,.bool true,.bool false,.string ⟨#[100,101,108,97,121]⟩,.int .i64 1,.int .i64 1,.int .i64 16,.bool true,.bool false,.string ⟨#[115,117,109]⟩,.int .i64 1,.int .i64 1,.int .i64 0,.bool true,.bool false,.string ⟨#[100,105,102,102]⟩,.int .i64 1,.int .i64 1,.int .i64 0,.bool true,.bool false,.string ⟨#[109,117,108]⟩,.int .i64 2,.int .i64 1,.int .i64 0,.bool false,.bool false,.string ⟨#[115,104,105,102,116]⟩,.int .i64 1,.int .i64 0,.int .i64 31,.bool false,.bool false,.string ⟨#[99,108,105,112]⟩,.int .i64 1,.int .i64 0,.int .i64 2147483647,.bool false,.bool false,.string ⟨#[112,104,97,115,101]⟩,.int .i64 1,.int .i64 (-2147483648),.int .i64 2147483647,.bool false,.bool false,.string ⟨#[116,97,98,108,101]⟩,.int .i64 1,.int .i64 0,.int .i64 3,.bool false,.bool false,.string ⟨#[110,111,105,115,101]⟩,.int .i64 0,.int .i64 (-2147483648),.int .i64 2147483647,.bool false,.bool false,.string ⟨#[115,101,108,101,99,116]⟩,.int .i64 3,.int .i64 1,.int .i64 0,.bool false,.bool false,.string ⟨#[104,111,108,100]⟩,.int .i64 2,.int .i64 1,.int .i64 0,.bool false,.bool false,.string ⟨#[99,111,109,98]⟩,.int .i64 1,.int .i64 (-2147483648),.int .i64 2147483647,.bool true,.bool true]
theorem c_kinds (w:World):Calls Tryz.prog 279 #[] w fun e w'=>e= .returned (.slice (some ⟨w.heap.size,0,none⟩) 17 17)∧w'=w.alloc (.cells kndCells 306):=by
 go_enter Tryz.func279,Tryz.ntmps279
 go_wp2
 go_ret
 exact⟨rfl,rfl⟩
theorem kndCells_at {i:Nat} (h:i<17):kndCells[i * 6]?=some (.string (kndName i))∧kndCells[i * 6+1]?=some (.int .i64 (kndL.getD i ⟨0,0,0,false,false⟩).inputs)∧kndCells[i * 6+2]?=some (.int .i64 (kndL.getD i ⟨0,0,0,false,false⟩).low)∧kndCells[i * 6+3]?=some (.int .i64 (kndL.getD i ⟨0,0,0,false,false⟩).high)∧kndCells[i * 6+4]?=some (.bool (kndL.getD i ⟨0,0,0,false,false⟩).linear)∧kndCells[i * 6+5]?=some (.bool (kndL.getD i ⟨0,0,0,false,false⟩).hasB):=by
 have:i=0∨i=1∨i=2∨i=3∨i=4∨i=5∨i=6∨i=7∨i=8∨i=9∨i=10∨i=11∨i=12∨i=13∨i=14∨i=15∨i=16:=by omega
 rcases this with rfl|rfl|rfl|rfl|rfl|rfl|rfl|rfl|rfl|rfl|rfl|rfl|rfl|rfl|rfl|rfl|rfl
 all_goals exact⟨rfl,rfl,rfl,rfl,rfl,rfl⟩
theorem c_isKind (n:Int) (w:World):Calls Tryz.prog 278 #[.int .i64 n] w fun e w'=>e= .returned (.bool (inB n 1 17))∧w=w':=by
 go_enter Tryz.func278,Tryz.ntmps278
 go_wp2_with (go_at_call 89;refine(xS _ _ _ _).mono ?_;rintro e w' ⟨rfl,rfl⟩)
 go_ret
 exact⟨rfl,rfl⟩
theorem c_hasA (s:ByteArray) (a lo hi:Int) (l hb:Bool) (w:World):Calls Tryz.prog 280 #[.agg #[.string s,.int .i64 a,.int .i64 lo,.int .i64 hi,.bool l,.bool hb]] w fun e w'=>e= .returned (.bool (decide (lo≤hi)))∧Below w.heap.size w w':=by
 have HB:=hide (show Below w.heap.size w (w.alloc (.cells #[.string s,.int .i64 a,.int .i64 lo,.int .i64 hi,.bool l,.bool hb] 306)) from(Below.refl _ _).alloc (Nat.le_refl _) _)
 go_enter Tryz.func280,Tryz.ntmps280
 go_wp2
 go_ret
 exact⟨rfl,HB.out⟩
end
end Go.Proofs.YtoibekfhepnedaaGreat
