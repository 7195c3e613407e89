/- Plain functions on texts: the parts of a text between bytes, its lines, changes. No program is named here. Words for memory: slices of strings, slices of changes. No program is named here. Words for memory: a slice of the call's own between two marks of the heap. No program is named here. Trees of data in memory: what a slice of structs of slices reads as, and whose blocks it takes. No program is named here. Trees of data, field by field; data that a call has made. No program is named here. Laws for data that a call lays anew: blocks in order, elements stored one by one. No program is named here. Laws for data that is marked cell by cell. No program is named here. Nested data: sessions, desks and their parts; how they lie in memory. What valid sessions and caches are, in plain words. -/
import Derived.Test.YtdcofkabaigjpaaGreatQAaEdits
import Derived.Test.YtdcofkabaigjpaaGreatRows
set_option linter.unusedVariables false
set_option linter.unusedSimpArgs false

namespace Go.Proofs.YtdcofkabaigjpaaGreat
section
structure Chg where
 k:Int
 p:Int
 t:ByteArray
deriving DecidableEq
end
section
open Go.RowKit

end
section
open Go.RowKit
section
variable {α:Type} {enc:α→List Value} {sz:Nat} {w w':World} {E:TypeId} {lo hi:Nat} {v:Value} {xs ys:List α}
theorem zOy (w:World) (g o:Nat) (u:Value):w.grownBy (w.setCell ⟨g,o,none⟩ u) (some g):=
 ⟨rfl,rfl,rfl,by simp[World.setCell],fun k _ hne=>Below.heap_setCell w _ u k (fun e=>hne (by rw[e]))⟩
theorem grown_below {w w':World} (h:Below w.heap.size w w') (r:Option Nat):w.grownBy w' r:=⟨h.os,h.tape,h.output,h.size,fun k hk _=>h.block k hk⟩
end
end
section
open Go.RowKit
inductive T where
 |num (n:Int)
 |str (s:ByteArray)
 |sl (E:TypeId) (sz:Nat) (xs:List T)
 |st (fs:List T)
mutual
def T.wide:T→Nat
 | .num _=>1
 | .str _=>1
 | .sl _ _ _=>1
 | .st fs=>T.wides fs
def T.wides:List T→Nat
 | []=>0
 |x :: xs=>T.wide x+T.wides xs
end
mutual
def T.rd (w:World):T→List Value→Prop
 | .num n,cs=>cs= [.int .i64 n]
 | .str s,cs=>cs= [.string s]
 | .sl _ sz xs,cs=> ∃ v es,cs= [v]∧(∀ x ∈ xs,T.wide x=sz)∧Rd w v sz xs.length es∧T.rds w xs es
 | .st fs,cs=>T.rds w fs cs
def T.rds (w:World):List T→List Value→Prop
 | [],cs=>cs= []
 |x :: xs,cs=> ∃ c1 c2,cs=c1++c2∧T.rd w x c1∧T.rds w xs c2
end
mutual
def T.ow (w:World):T→List Nat→List Value→Prop
 | .num n,F,cs=>F= []∧cs= [.int .i64 n]
 | .str s,F,cs=>F= []∧cs= [.string s]
 | .sl E sz xs,F,cs=> ∃ v es G,cs= [v]∧F=v.ownBlock.toList++G∧(∀ x ∈ xs,T.wide x=sz)∧w.ownsRow 0 E sz v xs.length es∧T.ows w xs G es
 | .st fs,F,cs=>T.ows w fs F cs
def T.ows (w:World):List T→List Nat→List Value→Prop
 | [],F,cs=>F= []∧cs= []
 |x :: xs,F,cs=> ∃ F1 F2 c1 c2,F=F1++F2∧cs=c1++c2∧T.ow w x F1 c1∧T.ows w xs F2 c2
end
mutual
theorem T.rd_len {w:World} : ∀ (x:T) (cs:List Value),T.rd w x cs→cs.length=T.wide x
 | .num _,_,h=>by simp only[T.rd] at h;subst h;rfl
 | .str _,_,h=>by simp only[T.rd] at h;subst h;rfl
 | .sl _ _ _,_,h=>by simp only[T.rd] at h;obtain⟨v,es,rfl,_⟩:=h;rfl
 | .st fs,cs,h=>by simp only[T.rd] at h;simp only[T.wide];exact T.rds_len fs cs h
theorem T.rds_len {w:World} : ∀ (xs:List T) (cs:List Value),T.rds w xs cs→cs.length=T.wides xs
 | [],_,h=>by simp only[T.rds] at h;subst h;rfl
 |x :: xs,_,h=>by
  simp only[T.rds] at h;obtain⟨c1,c2,rfl,h1,h2⟩:=h;simp only[T.wides,List.length_append,T.rd_len x c1 h1,T.rds_len xs c2 h2]
end
mutual
theorem T.rd_keep {w w':World} (hs:w.heap.size≤w'.heap.size) (hk: ∀ b,b<w.heap.size→w'.heap[b]?=w.heap[b]?): ∀ (x:T) (cs:List Value),T.rd w x cs→T.rd w' x cs
 | .num _,_,h=>by simpa only[T.rd] using h
 | .str _,_,h=>by simpa only[T.rd] using h
 | .sl _ _ xs,_,h=>by
  simp only[T.rd] at h ⊢;obtain⟨v,es,rfl,hw,h1,h2⟩:=h;exact⟨v,es,rfl,hw,h1.keep hs (fun b _ hb=>hk b hb),T.rds_keep hs hk xs es h2⟩
 | .st fs,cs,h=>by simp only[T.rd] at h ⊢;exact T.rds_keep hs hk fs cs h
theorem T.rds_keep {w w':World} (hs:w.heap.size≤w'.heap.size) (hk: ∀ b,b<w.heap.size→w'.heap[b]?=w.heap[b]?): ∀ (xs:List T) (cs:List Value),T.rds w xs cs→T.rds w' xs cs
 | [],_,h=>by simpa only[T.rds] using h
 |x :: xs,_,h=>by
  simp only[T.rds] at h ⊢;obtain⟨c1,c2,rfl,h1,h2⟩:=h;exact⟨c1,c2,rfl,T.rd_keep hs hk x c1 h1,T.rds_keep hs hk xs c2 h2⟩
end
mutual
theorem T.ow_rd {w:World} : ∀ (x:T) (F:List Nat) (cs:List Value),T.ow w x F cs→T.rd w x cs
 | .num _,_,_,h=>by simp only[T.ow] at h;simp only[T.rd];exact h.2
 | .str _,_,_,h=>by simp only[T.ow] at h;simp only[T.rd];exact h.2
 | .sl _ _ xs,_,_,h=>by
  simp only[T.ow] at h;simp only[T.rd];obtain⟨v,es,G,rfl,rfl,hw,h1,h2⟩:=h;exact⟨v,es,rfl,hw,Rd.of_own h1,T.ows_rds xs G es h2⟩
 | .st fs,F,cs,h=>by simp only[T.ow] at h;simp only[T.rd];exact T.ows_rds fs F cs h
theorem T.ows_rds {w:World} : ∀ (xs:List T) (F:List Nat) (cs:List Value),T.ows w xs F cs→T.rds w xs cs
 | [],_,_,h=>by simp only[T.ows] at h;simp only[T.rds];exact h.2
 |x :: xs,_,_,h=>by
  simp only[T.ows] at h;simp only[T.rds];obtain⟨F1,F2,c1,c2,rfl,rfl,h1,h2⟩:=h;exact⟨c1,c2,rfl,T.ow_rd x F1 c1 h1,T.ows_rds xs F2 c2 h2⟩
end
theorem yBz {w w':World} {B:Nat} {E:TypeId} {sz n:Nat} {v:Value} {es:List Value} (hk: ∀ b,v.ownBlock=some b→w'.heap[b]?=w.heap[b]?) (h:w.ownsRow B E sz v n es):w'.ownsRow B E sz v n es:=by
 refine⟨h.1,?_⟩
 rcases h.2 with hn|⟨g,cap,cur,rfl,hbg,hg,rest⟩
 ·exact .inl hn
 ·exact .inr ⟨g,cap,cur,rfl,hbg,(hk g rfl).trans hg,rest⟩
mutual
theorem T.ow_keep {w w':World} : ∀ (x:T) (F:List Nat) (cs:List Value),(∀ b ∈ F,w'.heap[b]?=w.heap[b]?)→T.ow w x F cs→T.ow w' x F cs
 | .num _,_,_,_,h=>by simpa only[T.ow] using h
 | .str _,_,_,_,h=>by simpa only[T.ow] using h
 | .sl _ _ xs,_,_,hk,h=>by
  simp only[T.ow] at h ⊢;obtain⟨v,es,G,rfl,rfl,hw,h1,h2⟩:=h;exact⟨v,es,G,rfl,rfl,hw,yBz (fun b hb=>hk b (by simp[hb])) h1,T.ows_keep xs G es (fun b hb=>hk b (by simp[hb])) h2⟩
 | .st fs,F,cs,hk,h=>by simp only[T.ow] at h ⊢;exact T.ows_keep fs F cs hk h
theorem T.ows_keep {w w':World} : ∀ (xs:List T) (F:List Nat) (cs:List Value),(∀ b ∈ F,w'.heap[b]?=w.heap[b]?)→T.ows w xs F cs→T.ows w' xs F cs
 | [],_,_,_,h=>by simpa only[T.ows] using h
 |x :: xs,_,_,hk,h=>by
  simp only[T.ows] at h ⊢;obtain⟨F1,F2,c1,c2,rfl,rfl,h1,h2⟩:=h;exact⟨F1,F2,c1,c2,rfl,rfl,T.ow_keep x F1 c1 (fun b hb=>hk b (by simp[hb])) h1,T.ows_keep xs F2 c2 (fun b hb=>hk b (by simp[hb])) h2⟩
end
mutual
theorem T.ow_lt {w:World} : ∀ (x:T) (F:List Nat) (cs:List Value),T.ow w x F cs→ ∀ b ∈ F,b<w.heap.size
 | .num _,_,_,h=>by simp only[T.ow] at h;simp[h.1]
 | .str _,_,_,h=>by simp only[T.ow] at h;simp[h.1]
 | .sl _ _ xs,_,_,h=>by
  simp only[T.ow] at h;obtain⟨v,es,G,rfl,rfl,hw,h1,h2⟩:=h;intro b hb
  rcases List.mem_append.1 hb with hb|hb
  ·exact(h1.lt b (by simpa using hb)).2
  ·exact T.ows_lt xs G es h2 b hb
 | .st fs,F,cs,h=>by simp only[T.ow] at h;exact T.ows_lt fs F cs h
theorem T.ows_lt {w:World} : ∀ (xs:List T) (F:List Nat) (cs:List Value),T.ows w xs F cs→ ∀ b ∈ F,b<w.heap.size
 | [],_,_,h=>by simp only[T.ows] at h;simp[h.1]
 |x :: xs,_,_,h=>by
  simp only[T.ows] at h;obtain⟨F1,F2,c1,c2,rfl,rfl,h1,h2⟩:=h;intro b hb
  rcases List.mem_append.1 hb with hb|hb
  ·exact T.ow_lt x F1 c1 h1 b hb
  ·exact T.ows_lt xs F2 c2 h2 b hb
end
theorem T.ows_len {w:World} {xs:List T} {F:List Nat} {cs:List Value} (h:T.ows w xs F cs):cs.length=T.wides xs:=T.rds_len xs cs (T.ows_rds xs F cs h)
theorem T.ows_app {w:World} : ∀ (xs ys:List T) (F:List Nat) (cs:List Value),T.ows w (xs++ys) F cs↔ ∃ F1 F2 c1 c2,F=F1++F2∧cs=c1++c2∧T.ows w xs F1 c1∧T.ows w ys F2 c2
 | [],ys,F,cs=>by
  constructor
  ·intro h;exact⟨[],F,[],cs,rfl,rfl,by simp[T.ows],h⟩
  ·rintro⟨F1,F2,c1,c2,rfl,rfl,h1,h2⟩
   simp only[T.ows] at h1;obtain⟨rfl,rfl⟩:=h1
   simpa using h2
 |x :: xs,ys,F,cs=>by
  simp only[List.cons_append,T.ows,T.ows_app xs ys]
  constructor
  ·rintro⟨F1,_,c1,_,rfl,rfl,h1,F2,F3,c2,c3,rfl,rfl,h2,h3⟩
   exact⟨F1++F2,F3,c1++c2,c3,by simp,by simp,⟨F1,F2,c1,c2,rfl,rfl,h1,h2⟩,h3⟩
  ·rintro⟨_,F3,_,c3,rfl,rfl,⟨F1,F2,c1,c2,rfl,rfl,h1,h2⟩,h3⟩
   exact⟨F1,F2++F3,c1,c2++c3,by simp,by simp,h1,F2,F3,c2,c3,rfl,rfl,h2,h3⟩
theorem T.rds_app {w:World} : ∀ (xs ys:List T) (cs:List Value),T.rds w (xs++ys) cs↔ ∃ c1 c2,cs=c1++c2∧T.rds w xs c1∧T.rds w ys c2
 | [],ys,cs=>by
  constructor
  ·intro h;exact⟨[],cs,rfl,by simp[T.rds],h⟩
  ·rintro⟨c1,c2,rfl,h1,h2⟩
   simp only[T.rds] at h1;subst h1
   simpa using h2
 |x :: xs,ys,cs=>by
  simp only[List.cons_append,T.rds,T.rds_app xs ys]
  constructor
  ·rintro⟨c1,_,rfl,h1,c2,c3,rfl,h2,h3⟩
   exact⟨c1++c2,c3,by simp,⟨c1,c2,rfl,h1,h2⟩,h3⟩
  ·rintro⟨_,c3,rfl,⟨c1,c2,rfl,h1,h2⟩,h3⟩
   exact⟨c1,c2++c3,by simp,h1,c2,c3,rfl,h2,h3⟩
theorem T.wides_mul {sz:Nat} : ∀ (xs:List T),(∀ x ∈ xs,T.wide x=sz)→T.wides xs=xs.length * sz
 | [],_=>by simp[T.wides]
 |x :: xs,h=>by
  simp only[T.wides,List.length_cons,h x (by simp),T.wides_mul xs (fun y hy=>h y (by simp[hy]))];rw[Nat.add_mul];omega
theorem T.rds_at {w:World} {sz:Nat} : ∀ (xs:List T) (es:List Value) (k:Nat) (x:T),(∀ x ∈ xs,T.wide x=sz)→T.rds w xs es→xs[k]?=some x→ ∃ cs,T.rd w x cs∧ ∀ j u,cs[j]?=some u→es[k * sz+j]?=some u
 | [],_,_,_,_,_,hk=>by simp at hk
 |y :: xs,es,k,x,hw,h,hk=>by
  simp only[T.rds] at h;obtain⟨c1,c2,rfl,h1,h2⟩:=h;have hl:=T.rd_len y c1 h1;rw[hw y (by simp)] at hl
  cases k with
  |zero=>
   simp at hk;subst hk;refine⟨c1,h1,fun j u hj=>?_⟩;rw[Nat.zero_mul,Nat.zero_add,List.getElem?_append_left (List.getElem?_eq_some_iff.1 hj).1];exact hj
  |succ k=>
   obtain⟨cs,h3,h4⟩:=T.rds_at xs c2 k x (fun z hz=>hw z (by simp[hz])) h2 (by simpa using hk);refine⟨cs,h3,fun j u hj=>?_⟩;have e:(k+1) * sz+j=c1.length+(k * sz+j):=by rw[hl,Nat.add_mul];omega
   rw[e,List.getElem?_append_right zM,Nat.add_sub_cancel_left];exact h4 j u hj
theorem T.yT {w:World} {E:TypeId} {sz:Nat} {xs:List T} {v:Value} (h:T.rd w (.sl E sz xs) [v]):
  ∃ A cap,v= .slice A xs.length cap∧xs.length≤cap∧cap≤9223372036854775807∧
   (∀ k x,xs[k]?=some x→ ∃ b off cs,A=some ⟨b,off,none⟩∧b<w.heap.size∧T.rd w x cs∧ ∀ j u,cs[j]?=some u→w.cell? ⟨b,off+(k * sz+j),none⟩=some u):=by
 simp only[T.rd] at h;obtain⟨v',es,hv,hw,h1,h2⟩:=h;obtain rfl:v=v':=by simpa using hv
 obtain⟨_,A,cap,rfl,h3,h4,h5⟩:=h1;refine⟨A,cap,rfl,h3,h4,fun k x hk=>?_⟩;obtain⟨b,off,rfl,hb,hc⟩:=h5 (by have:=(List.getElem?_eq_some_iff.1 hk).1;omega);obtain⟨cs,h6,h7⟩:=T.rds_at xs es k x hw h2 hk;exact⟨b,off,cs,rfl,hb,h6,fun j u hj=>hc _ u (h7 j u hj)⟩
theorem T.rds_nums {w:World} : ∀ (xs:List Int) (es:List Value),T.rds w (xs.map T.num) es↔es=xs.map (Value.int .i64)
 | [],es=>by simp[T.rds]
 |x :: xs,es=>by
  simp only[List.map_cons,T.rds,T.rds_nums xs,T.rd]
  constructor
  ·rintro⟨c1,c2,rfl,rfl,rfl⟩;rfl
  ·rintro rfl;exact⟨_,_,rfl,rfl,rfl⟩
theorem T.ows_nums {w:World} : ∀ (xs:List Int) (F:List Nat) (es:List Value),T.ows w (xs.map T.num) F es↔F= []∧es=xs.map (Value.int .i64)
 | [],F,es=>by simp[T.ows]
 |x :: xs,F,es=>by
  simp only[List.map_cons,T.ows,T.ows_nums xs,T.ow]
  constructor
  ·rintro⟨F1,F2,c1,c2,rfl,rfl,⟨rfl,rfl⟩,rfl,rfl⟩;exact⟨rfl,rfl⟩
  ·rintro⟨rfl,rfl⟩;exact⟨[],[],_,_,rfl,rfl,⟨rfl,rfl⟩,rfl,rfl⟩
abbrev T.ints (E:TypeId) (xs:List Int):T:= .sl E 1 (xs.map T.num)
theorem T.xB {w:World} {E:TypeId} {xs:List Int} {v:Value} :T.rd w (T.ints E xs) [v]↔RdI w v xs:=by
 simp only[T.ints,T.rd,T.rds_nums,List.length_map]
 constructor
 ·rintro⟨v',es,hv,_,h1,rfl⟩
  obtain rfl:v=v':=by simpa using hv
  exact h1
 ·intro h
  exact⟨v,_,rfl,by simp[T.wide],h,rfl⟩
theorem T.ow_ints {w:World} {E:TypeId} {xs:List Int} {v:Value} {F:List Nat} :T.ow w (T.ints E xs) F [v]↔OwI E w 0 v xs∧F=v.ownBlock.toList:=by
 simp only[T.ints,T.ow,T.ows_nums,List.length_map]
 constructor
 ·rintro⟨v',es,G,hv,rfl,_,h1,rfl,rfl⟩
  obtain rfl:v=v':=by simpa using hv
  exact⟨h1,by simp⟩
 ·rintro⟨h,rfl⟩
  exact⟨v,_,[],rfl,by simp,by simp[T.wide],h,rfl,rfl⟩
theorem T.yJ {w w':World} {x:T} {cs:List Value} (h:T.rd w x cs) (hb:Below w.heap.size w w'):T.rd w' x cs:=T.rd_keep hb.size hb.block x cs h
theorem T.ow_below {w w':World} {x:T} {F:List Nat} {cs:List Value} {B:Nat} (h:T.ow w x F cs) (hb:Below B w w') (hF: ∀ b ∈ F,b<B):T.ow w' x F cs:=T.ow_keep x F cs (fun b hb'=>hb.block b (hF b hb')) h
theorem T.ow_all {w w':World} {x:T} {F:List Nat} {cs:List Value} (h:T.ow w x F cs) (hb:Below w.heap.size w w'):T.ow w' x F cs:=T.ow_below h hb (T.ow_lt x F cs h)
theorem T.ows_all {w w':World} {xs:List T} {F:List Nat} {cs:List Value} (h:T.ows w xs F cs) (hb:Below w.heap.size w w'):T.ows w' xs F cs:=T.ows_keep xs F cs (fun b hb'=>hb.block b (T.ows_lt xs F cs h b hb')) h
structure Trn (F:List Nat) (w w':World):Prop where
 os:w'.os=w.os
 tape:w'.tape=w.tape
 output:w'.output=w.output
 size:w.heap.size≤w'.heap.size
 block: ∀ k,k<w.heap.size→k ∉ F→w'.heap[k]?=w.heap[k]?
end
section
open Go.RowKit
section
variable {w w':World} {n:Int} {s:ByteArray} {E:TypeId} {sz:Nat} {xs ys:List T} {cs:List Value} {F:List Nat}
theorem T.rds_nil:T.rds w [] cs↔cs= []:=by simp only[T.rds]
theorem T.rds_num:T.rds w (.num n :: xs) cs↔ ∃ cs',cs= .int .i64 n :: cs'∧T.rds w xs cs':=by
 simp only[T.rds,T.rd]
 constructor
 ·rintro⟨c1,c2,rfl,rfl,h⟩;exact⟨c2,rfl,h⟩
 ·rintro⟨c2,rfl,h⟩;exact⟨_,c2,rfl,rfl,h⟩
theorem T.rds_str:T.rds w (.str s :: xs) cs↔ ∃ cs',cs= .string s :: cs'∧T.rds w xs cs':=by
 simp only[T.rds,T.rd]
 constructor
 ·rintro⟨c1,c2,rfl,rfl,h⟩;exact⟨c2,rfl,h⟩
 ·rintro⟨c2,rfl,h⟩;exact⟨_,c2,rfl,rfl,h⟩
theorem T.rd_one {c:List Value} (h:T.rd w (.sl E sz ys) c): ∃ v,c= [v]:=by
 simp only[T.rd] at h;obtain⟨v,_,rfl,_⟩:=h;exact⟨v,rfl⟩
theorem T.rds_sl:T.rds w (.sl E sz ys :: xs) cs↔ ∃ v cs',cs=v :: cs'∧T.rd w (.sl E sz ys) [v]∧T.rds w xs cs':=by
 constructor
 ·intro h
  simp only[T.rds] at h;obtain⟨c1,c2,rfl,h1,h2⟩:=h;obtain⟨v,rfl⟩:=T.rd_one h1;exact⟨v,c2,rfl,h1,h2⟩
 ·rintro⟨v,c2,rfl,h1,h2⟩
  simp only[T.rds];exact⟨[v],c2,rfl,h1,h2⟩
theorem T.ows_nil:T.ows w [] F cs↔F= []∧cs= []:=by simp only[T.ows]
theorem T.ows_num:T.ows w (.num n :: xs) F cs↔ ∃ cs',cs= .int .i64 n :: cs'∧T.ows w xs F cs':=by
 simp only[T.ows,T.ow]
 constructor
 ·rintro⟨F1,F2,c1,c2,rfl,rfl,⟨rfl,rfl⟩,h⟩;exact⟨c2,rfl,h⟩
 ·rintro⟨c2,rfl,h⟩;exact⟨[],F,_,c2,rfl,rfl,⟨rfl,rfl⟩,h⟩
theorem T.ows_str:T.ows w (.str s :: xs) F cs↔ ∃ cs',cs= .string s :: cs'∧T.ows w xs F cs':=by
 simp only[T.ows,T.ow]
 constructor
 ·rintro⟨F1,F2,c1,c2,rfl,rfl,⟨rfl,rfl⟩,h⟩;exact⟨c2,rfl,h⟩
 ·rintro⟨c2,rfl,h⟩;exact⟨[],F,_,c2,rfl,rfl,⟨rfl,rfl⟩,h⟩
theorem T.ows_sl:T.ows w (.sl E sz ys :: xs) F cs↔ ∃ v cs' F1 F2,F=F1++F2∧cs=v :: cs'∧T.ow w (.sl E sz ys) F1 [v]∧T.ows w xs F2 cs':=by
 constructor
 ·intro h
  simp only[T.ows] at h;obtain⟨F1,F2,c1,c2,rfl,rfl,h1,h2⟩:=h;obtain⟨v,rfl⟩:=T.rd_one (T.ow_rd _ _ _ h1);exact⟨v,c2,F1,F2,rfl,rfl,h1,h2⟩
 ·rintro⟨v,c2,F1,F2,rfl,rfl,h1,h2⟩
  simp only[T.ows];exact⟨F1,F2,[v],c2,rfl,rfl,h1,h2⟩
theorem T.c_rn (h:T.rds w xs cs):T.rds w (.num n :: xs) (.int .i64 n :: cs):=T.rds_num.2 ⟨_,rfl,h⟩
theorem T.c_rl {v:Value} (h:T.rd w (.sl E sz ys) [v]) (h2:T.rds w xs cs):T.rds w (.sl E sz ys :: xs) (v :: cs):=T.rds_sl.2 ⟨_,_,rfl,h,h2⟩
theorem T.c_re:T.rds w [] []:=T.rds_nil.2 rfl
theorem T.c_on (h:T.ows w xs F cs):T.ows w (.num n :: xs) F (.int .i64 n :: cs):=T.ows_num.2 ⟨_,rfl,h⟩
theorem T.c_os (h:T.ows w xs F cs):T.ows w (.str s :: xs) F (.string s :: cs):=T.ows_str.2 ⟨_,rfl,h⟩
theorem T.c_ol {v:Value} {F1:List Nat} (h:T.ow w (.sl E sz ys) F1 [v]) (h2:T.ows w xs F cs):T.ows w (.sl E sz ys :: xs) (F1++F) (v :: cs):=T.ows_sl.2 ⟨_,_,_,_,rfl,rfl,h,h2⟩
theorem T.c_oe:T.ows w [] [] []:=T.ows_nil.2 ⟨rfl,rfl⟩
theorem T.ow_far {x:T} {g:Nat} (h:T.ow w x F cs) (hg:g ∉ F) (o:Nat) (u:Value):T.ow (w.setCell ⟨g,o,none⟩ u) x F cs:=
 T.ow_keep x F cs (fun b hb=>Below.heap_setCell w _ u b (fun e=>hg (by rw[←show b=g from e];exact hb))) h
theorem T.yX {g:Nat} (h:T.ows w xs F cs) (hg:g ∉ F) (o:Nat) (u:Value):T.ows (w.setCell ⟨g,o,none⟩ u) xs F cs:=
 T.ows_keep xs F cs (fun b hb=>Below.heap_setCell w _ u b (fun e=>hg (by rw[←show b=g from e];exact hb))) h
end
structure Nw (w w':World) (xs:List T) (F:List Nat) (cs:List Value):Prop where
 ows:T.ows w' xs F cs
 nodup:F.Nodup
 lo: ∀ b ∈ F,w.heap.size≤b
 below:Below w.heap.size w w'
structure Nv (w w':World) (x:T) (F:List Nat) (v:Value):Prop where
 ow:T.ow w' x F [v]
 nodup:F.Nodup
 lo: ∀ b ∈ F,w.heap.size≤b
 below:Below w.heap.size w w'
theorem Nv.lt {w w':World} {x:T} {F:List Nat} {v:Value} (h:Nv w w' x F v): ∀ b ∈ F,b<w'.heap.size:=T.ow_lt _ _ _ h.ow
theorem Nv.ints {w w':World} {E:TypeId} {xs:List Int} {v:Value} (h:OwI E w' w.heap.size v xs) (hb:Below w.heap.size w w'):Nv w w' (T.ints E xs) v.ownBlock.toList v:=by
 refine⟨T.ow_ints.2 ⟨h.more (Nat.zero_le _),rfl⟩,?_,?_,hb⟩
 ·cases v.ownBlock<;>simp
 ·intro b hb;exact(h.lt b (by simpa using hb)).1
def I64 (n:Int):Prop:= -9223372036854775808≤n∧n≤9223372036854775807
def smL {α:Type} (p:α→Prop) (xs:List α):Prop:=xs.length≤1048576∧ ∀ x ∈ xs,p x
end
section
open Go.RowKit
theorem nf {F:List Nat} {lo g:Nat} (h: ∀ b ∈ F,lo≤b) (hg:g<lo):g ∉ F:=fun hm=>by have:=h g hm;omega
theorem Bk.born1' (w:World) (o:Obj) (t:TypeId) (cs:Array Value):Bk ((w.alloc o).alloc (.cells cs t)) (w.heap.size+1) t cs:=by
 have:=Bk.born (w.alloc o) t cs
 simpa using this
theorem Bk.born2 (w:World) (o o2:Obj) (t:TypeId) (cs:Array Value):Bk (((w.alloc o).alloc o2).alloc (.cells cs t)) (w.heap.size+2) t cs:=by
 have:=Bk.born ((w.alloc o).alloc o2) t cs
 simpa using this
def setsW (w:World) (g:Nat):Nat→List Value→World
 |_,[]=>w
 |p,u :: us=>setsW (w.setCell ⟨g,p,none⟩ u) g (p+1) us
def setsL (es:List Value):Nat→List Value→List Value
 |_,[]=>es
 |p,u :: us=>setsL (es.set p u) (p+1) us
theorem grown_set1 (w:World) (g o:Nat) (u:Value):w.grownBy (w.setCell ⟨g,o,none⟩ u) (some g):=
 ⟨rfl,rfl,rfl,by simp[World.setCell],fun k _ hne=>Below.heap_setCell w _ u k (fun e=>hne (by rw[e]))⟩
theorem own_sets {B E sz n g cap:Nat} : ∀ (us:List Value) (w:World) (p:Nat) (es:List Value),w.ownsRow B E sz (.slice (some ⟨g,0,none⟩) n cap) n es→
  (setsW w g p us).ownsRow B E sz (.slice (some ⟨g,0,none⟩) n cap) n (setsL es p us)∧w.grownBy (setsW w g p us) (some g)
 | [],w,p,es,h=>⟨h,World.grownBy.refl _ _⟩
 |u :: us,w,p,es,h=>by
  obtain⟨h1,h2⟩:=own_sets us (w.setCell ⟨g,p,none⟩ u) (p+1) (es.set p u) (World.ownsRow.stored h p u).1;exact⟨h1,(grown_set1 w g p u).trans h2⟩
theorem setsL_mid: ∀ (us zs c1 c2:List Value),us.length=zs.length→setsL (c1++(zs++c2)) c1.length us=c1++(us++c2)
 | [],[],c1,c2,_=>rfl
 |u :: us,z :: zs,c1,c2,h=>by
  have e:(c1++((z :: zs)++c2)).set c1.length u=(c1++ [u])++(zs++c2):=by
   rw[List.set_append_right _ _ zJ,Nat.sub_self];simp
  have:=setsL_mid us zs (c1++ [u]) c2 (by simpa using h);simp only[setsL];rw[e];rw[List.length_append,List.length_singleton] at this;rw[this];simp
theorem len1 {α:Type} {l:List α} (h:l.length=1): ∃ a,l= [a]:=by match l,h with| [a],_=>exact⟨a,rfl⟩
theorem len2 {α:Type} {l:List α} (h:l.length=2): ∃ a b,l= [a,b]:=by match l,h with| [a,b],_=>exact⟨a,b,rfl⟩
theorem len3 {α:Type} {l:List α} (h:l.length=3): ∃ a b c,l= [a,b,c]:=by match l,h with| [a,b,c],_=>exact⟨a,b,c,rfl⟩
theorem len4 {α:Type} {l:List α} (h:l.length=4): ∃ a b c d,l= [a,b,c,d]:=by match l,h with| [a,b,c,d],_=>exact⟨a,b,c,d,rfl⟩
theorem len5 {α:Type} {l:List α} (h:l.length=5): ∃ a b c d e,l= [a,b,c,d,e]:=by match l,h with| [a,b,c,d,e],_=>exact⟨a,b,c,d,e,rfl⟩
theorem own_cell {w:World} {B E sz n g cap:Nat} {c1 zs c2:List Value} (h:w.ownsRow B E sz (.slice (some ⟨g,0,none⟩) n cap) n (c1++(zs++c2))) {j:Nat} {u:Value} (hj:zs[j]?=some u):w.cell? ⟨g,c1.length+j,none⟩=some u:=by
 have hl:=(List.getElem?_eq_some_iff.1 hj).1;rw[World.ownsRow.cellAt h (c1.length+j) (by rw[←h.1];simp;omega)];rw[List.getElem?_append_right zM,Nat.add_sub_cancel_left,List.getElem?_append_left hl];exact hj
theorem xC {w:World} {B E sz n g cap:Nat} {es:List Value} (h:w.ownsRow B E sz (.slice (some ⟨g,0,none⟩) n cap) n es) (j:Nat):w.frozen? ⟨g,j,none⟩=false:=World.ownsRow.frozenAt h j
theorem T.ows_snoc {w:World} {xs:List T} {x:T} {F F':List Nat} {c1 c2:List Value} (h:T.ows w xs F c1) (k:T.ow w x F' c2):T.ows w (xs++ [x]) (F++F') (c1++c2):=
 (T.ows_app xs [x] _ _).2 ⟨F,F',c1,c2,rfl,rfl,h,by simp only[T.ows];exact⟨F',[],c2,[],by simp,by simp,k,rfl,rfl⟩⟩
theorem T.xD {w:World} {E:TypeId} {sz:Nat} {xs:List T} {u:Value} (h:T.rd w (.sl E sz xs) [u]): ∃ A l c,u= .slice A l c:=by
 obtain⟨A,cap,rfl,_⟩:=T.yT h;exact⟨_,_,_,rfl⟩
theorem T.xE {w:World} {E:TypeId} {sz:Nat} {xs:List T} {F:List Nat} {u:Value} (h:T.ow w (.sl E sz xs) F [u]): ∃ A l c,u= .slice A l c:=T.xD (T.ow_rd _ _ _ h)
end
section
open Go.RowKit
section
variable {w w' a b:World} {F G:List Nat}
theorem Trn.refl (F:List Nat) (w:World):Trn F w w:=⟨rfl,rfl,rfl,zJ,fun _ _ _=>rfl⟩
theorem Trn.trans (h:Trn F w a) (k:Trn F a b):Trn F w b:=
 ⟨k.os.trans h.os,k.tape.trans h.tape,k.output.trans h.output,Nat.le_trans h.size k.size,fun x hx hn=>(k.block x (zW hx h.size) hn).trans (h.block x hx hn)⟩
theorem Trn.mono (h:Trn F w w') (hs: ∀ b ∈ F,b ∈ G):Trn G w w':=⟨h.os,h.tape,h.output,h.size,fun x hx hn=>h.block x hx (fun e=>hn (hs x e))⟩
theorem Trn.of_below (h:Below w.heap.size w w'):Trn F w w':=⟨h.os,h.tape,h.output,h.size,fun x hx _=>h.block x hx⟩
theorem Trn.set_ {g:Nat} (hg:g ∈ F) (o:Nat) (u:Value):Trn F w (w.setCell ⟨g,o,none⟩ u):=
 ⟨rfl,rfl,rfl,by simp[World.setCell],fun x _ hn=>Below.heap_setCell w _ u x (fun e=>hn (by rw[show x=g from e];exact hg))⟩
theorem Trn.alloc (o:Obj):Trn F w (w.alloc o):=Trn.of_below (zR.alloc zJ o)
theorem Trn.of_grown {v:Value} (h:w.grownBy w' v.ownBlock):Trn v.ownBlock.toList w w':=
 ⟨h.os,h.tape,h.output,h.size,fun x hx hn=>h.block x hx (fun e=>hn (by rw[←e];simp))⟩
theorem Trn.below {B:Nat} {w0:World} (hb:Below B w0 w) (h:Trn F w w') (hF: ∀ b ∈ F,B≤b) (hB:B≤w.heap.size):Below B w0 w':=
 hb.trans ⟨h.os,h.tape,h.output,h.size,fun k hk=>h.block k zM (fun e=>by have:=hF k e;omega)⟩
theorem T.ow_trn {x:T} {cs:List Value} (h:T.ow w x F cs) (k:Trn G w w') (hd: ∀ b ∈ F,b ∉ G):T.ow w' x F cs:=
 T.ow_keep x F cs (fun b hb=>k.block b (T.ow_lt x F cs h b hb) (hd b hb)) h
theorem T.ows_trn {xs:List T} {cs:List Value} (h:T.ows w xs F cs) (k:Trn G w w') (hd: ∀ b ∈ F,b ∉ G):T.ows w' xs F cs:=
 T.ows_keep xs F cs (fun b hb=>k.block b (T.ows_lt xs F cs h b hb) (hd b hb)) h
theorem own_trn {B E sz n g cap:Nat} {es:List Value} (h:w.ownsRow B E sz (.slice (some ⟨g,0,none⟩) n cap) n es) (k:Trn G w w') (hd:g ∉ G):w'.ownsRow B E sz (.slice (some ⟨g,0,none⟩) n cap) n es:=
 yBz (fun b hb=>by
  have e:g=b:=by simpa[Value.ownBlock] using hb
  subst e;exact k.block _ (h.lt _ rfl).2 hd) h
theorem Bk.trn {g:Nat} {t:TypeId} {cs:Array Value} (h:Bk w g t cs) (k:Trn G w w') (hd:g ∉ G):Bk w' g t cs:=(k.block g h.lt hd).trans h
end
theorem xWz {A B:List Nat} (h:(A++B).Nodup):A.Nodup:=(List.nodup_append.1 h).1
theorem yY {A B:List Nat} (h:(A++B).Nodup):B.Nodup:=(List.nodup_append.1 h).2.1
theorem yYz {A B:List Nat} (h:(A++B).Nodup): ∀ b ∈ A,b ∉ B:=fun b h1 h2=>(List.nodup_append.1 h).2.2 b h1 b h2 rfl
theorem nodup_dj' {A B:List Nat} (h:(A++B).Nodup): ∀ b ∈ B,b ∉ A:=fun b h1 h2=>(List.nodup_append.1 h).2.2 b h2 b h1 rfl
theorem own_set1 {w:World} {B E sz n g cap j:Nat} {c1 cx c2:List Value} {u:Value} (h:w.ownsRow B E sz (.slice (some ⟨g,0,none⟩) n cap) n (c1++(cx++c2))) (hj:j<cx.length):
  (w.setCell ⟨g,c1.length+j,none⟩ u).ownsRow B E sz (.slice (some ⟨g,0,none⟩) n cap) n (c1++(cx.set j u++c2)):=by
 have:=(World.ownsRow.stored h (c1.length+j) u).1;rw[List.set_append_right _ _ zM,Nat.add_sub_cancel_left,List.set_append_left _ _ hj] at this;exact this
structure Mid (w:World) (E:TypeId) (sz n g cap:Nat) (pre:List T) (x:T) (post:List T) (G1 Fx G2:List Nat) (c1 cx c2:List Value):Prop where
 own:w.ownsRow 0 E sz (.slice (some ⟨g,0,none⟩) n cap) n (c1++(cx++c2))
 pr:T.ows w pre G1 c1
 el:T.ow w x Fx cx
 po:T.ows w post G2 c2
 nd:(g :: (G1++(Fx++G2))).Nodup
 wd: ∀ y ∈ pre++x :: post,T.wide y=sz
 ln:n=(pre++x :: post).length
theorem T.mid {w:World} {E:TypeId} {sz:Nat} {pre:List T} {x:T} {post:List T} {F:List Nat} {v:Value} (h:T.ow w (.sl E sz (pre++x :: post)) F [v]) (hn:F.Nodup):
  ∃ n g cap G1 Fx G2 c1 cx c2,v= .slice (some ⟨g,0,none⟩) n cap∧F=g :: (G1++(Fx++G2))∧Mid w E sz n g cap pre x post G1 Fx G2 c1 cx c2:=by
 simp only[T.ow] at h;obtain⟨v',es,G,hv,rfl,hw,ho,hs⟩:=h;obtain rfl:v=v':=by simpa using hv
 obtain⟨G1,F2,c1,c3,rfl,rfl,h1,h2⟩:=(T.ows_app _ _ _ _).1 hs;simp only[T.ows] at h2;obtain⟨Fx,G2,cx,c2,rfl,rfl,h3,h4⟩:=h2
 rcases ho.2 with ⟨_,h0⟩|⟨g,cap,cur,hv2,_⟩
 ·simp at h0
 ·subst hv2
  exact⟨_,g,cap,G1,Fx,G2,c1,cx,c2,rfl,by simp[Value.ownBlock],ho,h1,h3,h4,by simpa[Value.ownBlock] using hn,hw,rfl⟩
theorem Mid.c1 {w:World} {E:TypeId} {sz n g cap:Nat} {pre:List T} {x:T} {post:List T} {G1 Fx G2:List Nat} {c1 cx c2:List Value} (h:Mid w E sz n g cap pre x post G1 Fx G2 c1 cx c2):c1.length=pre.length * sz:=by
 rw[T.ows_len h.pr,T.wides_mul pre (fun y hy=>h.wd y (by simp[hy]))]
theorem Mid.gx {w:World} {E:TypeId} {sz n g cap:Nat} {pre:List T} {x:T} {post:List T} {G1 Fx G2:List Nat} {c1 cx c2:List Value} (h:Mid w E sz n g cap pre x post G1 Fx G2 c1 cx c2):g ∉ Fx:=fun hm=>by
 have:=(List.nodup_cons.1 h.nd).1;exact this (by simp[hm])
theorem Mid.fx {w:World} {E:TypeId} {sz n g cap:Nat} {pre:List T} {x:T} {post:List T} {G1 Fx G2:List Nat} {c1 cx c2:List Value} (h:Mid w E sz n g cap pre x post G1 Fx G2 c1 cx c2):Fx.Nodup:=
 xWz (yY (List.nodup_cons.1 h.nd).2)
theorem Mid.close {w w':World} {E:TypeId} {sz n g cap:Nat} {pre:List T} {x x':T} {post:List T} {G1 Fx G2:List Nat} {c1 cx cx' c2:List Value} (h:Mid w E sz n g cap pre x post G1 Fx G2 c1 cx c2)
  (k:Trn (g :: Fx) w w') (ho:w'.ownsRow 0 E sz (.slice (some ⟨g,0,none⟩) n cap) n (c1++(cx'++c2))) (he:T.ow w' x' Fx cx') (hw:T.wide x'=sz):
  T.ow w' (.sl E sz (pre++x' :: post)) (g :: (G1++(Fx++G2))) [.slice (some ⟨g,0,none⟩) n cap]:=by
 have hg:=(List.nodup_cons.1 h.nd).1;have h2:=(List.nodup_cons.1 h.nd).2
 have d1: ∀ b ∈ G1,b ∉ g :: Fx:=fun b hb hm=>by
  rcases List.mem_cons.1 hm with rfl|hm
  ·exact hg (by simp[hb])
  ·exact yYz h2 b hb (by simp[hm])
 have d2: ∀ b ∈ G2,b ∉ g :: Fx:=fun b hb hm=>by
  rcases List.mem_cons.1 hm with rfl|hm
  ·exact hg (by simp[hb])
  ·exact nodup_dj' (yY h2) b hb hm
 simp only[T.ow];refine⟨_,c1++(cx'++c2),G1++(Fx++G2),rfl,by simp[Value.ownBlock],?_,?_,?_⟩
 ·intro y hy
  rcases List.mem_append.1 hy with hy|hy
  ·exact h.wd y (by simp[hy])
  ·rcases List.mem_cons.1 hy with rfl|hy
   ·exact hw
   ·exact h.wd y (by simp[hy])
 ·have:(pre++x' :: post).length=n:=by rw[h.ln];simp
  rw[this];exact ho
 ·refine(T.ows_app _ _ _ _).2 ⟨G1,Fx++G2,c1,cx'++c2,rfl,rfl,T.ows_trn h.pr k d1,?_⟩
  simp only[T.ows];exact⟨Fx,G2,cx',c2,rfl,rfl,he,T.ows_trn h.po k d2⟩
theorem T.ow_form {w:World} {E:TypeId} {sz:Nat} {xs:List T} {F:List Nat} {v:Value} (h:T.ow w (.sl E sz xs) F [v]) (hn:0<xs.length): ∃ g cap,v= .slice (some ⟨g,0,none⟩) xs.length cap∧xs.length≤cap∧cap≤9223372036854775807:=by
 simp only[T.ow] at h;obtain⟨v',es,G,hv,_,_,ho,_⟩:=h;obtain rfl:v=v':=by simpa using hv
 rcases ho.2 with ⟨_,h0⟩|⟨g,cap,cur,hv2,_,_,h1,h2,_⟩
 ·omega
 ·exact⟨g,cap,hv2,h1,by unfold maxLen at h2;omega⟩
theorem uTz {w:World} {B E sz n g cap p:Nat} (j:Nat) {c1 cx c2:List Value} {u:Value} (h:w.ownsRow B E sz (.slice (some ⟨g,0,none⟩) n cap) n (c1++(cx++c2))) (hc:c1.length=p) (hj:j<cx.length):
  (w.setCell ⟨g,p+j,none⟩ u).ownsRow B E sz (.slice (some ⟨g,0,none⟩) n cap) n (c1++(cx.set j u++c2)):=by
 subst hc;exact own_set1 h hj
theorem uUz {w:World} {B E sz n g cap p:Nat} (j:Nat) {c1 zs c2:List Value} (h:w.ownsRow B E sz (.slice (some ⟨g,0,none⟩) n cap) n (c1++(zs++c2))) (hc:c1.length=p) {u:Value} (hj:zs[j]?=some u):w.cell? ⟨g,p+j,none⟩=some u:=by
 subst hc;exact own_cell h hj
end
section
open Go.RowKit
structure xU where
 zV:Int
 zO:Int
 zB:Int
 yE:Int
 yB:Int
deriving DecidableEq
def xU.fs (x:xU):List T:= [.num x.zV,.num x.zO,.num x.zB,.num x.yE,.num x.yB]
def xU.t (x:xU):T:= .st x.fs
theorem xU.wide_t (x:xU):T.wide x.t=5:=by simp[xU.t,xU.fs,T.wide,T.wides]
def xU.good (x:xU):Prop:=I64 x.zV∧I64 x.zO∧I64 x.zB∧I64 x.yE∧I64 x.yB
theorem xU.yT {w:World} {x:xU} {cs:List Value} (h:T.rds w x.fs cs):cs= [.int .i64 x.zV,.int .i64 x.zO,.int .i64 x.zB,.int .i64 x.yE,.int .i64 x.yB]:=by
 simp only[xU.fs,T.rds_num,T.rds_str,T.rds_sl,T.rds_nil] at h;obtain⟨_,rfl,_,rfl,_,rfl,_,rfl,_,rfl,rfl⟩:=h;exact rfl
theorem xU.rd_mk {w:World} {x:xU} :T.rds w x.fs [.int .i64 x.zV,.int .i64 x.zO,.int .i64 x.zB,.int .i64 x.yE,.int .i64 x.yB]:=by
 unfold xU.fs;exact T.c_rn (T.c_rn (T.c_rn (T.c_rn (T.c_rn (T.c_re)))))
theorem xU.ow_mk {w:World} {x:xU} :T.ows w x.fs [] [.int .i64 x.zV,.int .i64 x.zO,.int .i64 x.zB,.int .i64 x.yE,.int .i64 x.yB]:=by
 unfold xU.fs;exact T.c_on (T.c_on (T.c_on (T.c_on (T.c_on (T.c_oe)))))
structure xS where
 zS:List xU
deriving DecidableEq
def xS.fs (x:xS):List T:= [T.sl 39 5 (x.zS.map xU.t)]
def xS.t (x:xS):T:= .st x.fs
def xS.good (x:xS):Prop:=(∀ y ∈ x.zS,xU.good y)
def xS.small (x:xS):Prop:=x.zS.length≤1048576
theorem xS.yT {w:World} {x:xS} {cs:List Value} (h:T.rds w x.fs cs): ∃ v0,cs= [v0]∧T.rd w (T.sl 39 5 (x.zS.map xU.t)) [v0]:=by
 simp only[xS.fs,T.rds_num,T.rds_str,T.rds_sl,T.rds_nil] at h;obtain⟨v0,_,rfl,h0,rfl⟩:=h;exact⟨v0,rfl,h0⟩
theorem xS.rd_mk {w:World} {x:xS} {v0:Value} (h0:T.rd w (T.sl 39 5 (x.zS.map xU.t)) [v0]):T.rds w x.fs [v0]:=by
 unfold xS.fs;exact T.c_rl h0 (T.c_re)
theorem xS.ow_mk {w:World} {x:xS} {v0:Value} {F0:List Nat} (h0:T.ow w (T.sl 39 5 (x.zS.map xU.t)) F0 [v0]):T.ows w x.fs (F0++ []) [v0]:=by
 unfold xS.fs;exact T.c_ol h0 (T.c_oe)
structure xV where
 yI:Int
 yB:Int
deriving DecidableEq
def xV.fs (x:xV):List T:= [.num x.yI,.num x.yB]
def xV.t (x:xV):T:= .st x.fs
theorem xV.wide_t (x:xV):T.wide x.t=2:=by simp[xV.t,xV.fs,T.wide,T.wides]
def xV.good (x:xV):Prop:=I64 x.yI∧I64 x.yB
theorem xV.yT {w:World} {x:xV} {cs:List Value} (h:T.rds w x.fs cs):cs= [.int .i64 x.yI,.int .i64 x.yB]:=by
 simp only[xV.fs,T.rds_num,T.rds_str,T.rds_sl,T.rds_nil] at h;obtain⟨_,rfl,_,rfl,rfl⟩:=h;exact rfl
theorem xV.rd_mk {w:World} {x:xV} :T.rds w x.fs [.int .i64 x.yI,.int .i64 x.yB]:=by
 unfold xV.fs;exact T.c_rn (T.c_rn (T.c_re))
theorem xV.ow_mk {w:World} {x:xV} :T.ows w x.fs [] [.int .i64 x.yI,.int .i64 x.yB]:=by
 unfold xV.fs;exact T.c_on (T.c_on (T.c_oe))
structure xP where
 yH:ByteArray
 zZ:Int
 zT:List xV
deriving DecidableEq
def xP.fs (x:xP):List T:= [.str x.yH,.num x.zZ,T.sl 71 2 (x.zT.map xV.t)]
def xP.t (x:xP):T:= .st x.fs
theorem xP.wide_t (x:xP):T.wide x.t=3:=by simp[xP.t,xP.fs,T.wide,T.wides]
def xP.good (x:xP):Prop:=x.yH.size≤9223372036854775807∧I64 x.zZ∧(∀ y ∈ x.zT,xV.good y)
def xP.small (x:xP):Prop:=x.yH.size≤1048576∧x.zT.length≤1048576
theorem xP.yT {w:World} {x:xP} {cs:List Value} (h:T.rds w x.fs cs): ∃ v2,cs= [.string x.yH,.int .i64 x.zZ,v2]∧T.rd w (T.sl 71 2 (x.zT.map xV.t)) [v2]:=by
 simp only[xP.fs,T.rds_num,T.rds_str,T.rds_sl,T.rds_nil] at h;obtain⟨_,rfl,_,rfl,v2,_,rfl,h2,rfl⟩:=h;exact⟨v2,rfl,h2⟩
theorem xP.ow_open {w:World} {x:xP} {F:List Nat} {cs:List Value} (h:T.ows w x.fs F cs): ∃ v2 F2,cs= [.string x.yH,.int .i64 x.zZ,v2]∧F=F2++ []∧T.ow w (T.sl 71 2 (x.zT.map xV.t)) F2 [v2]:=by
 simp only[xP.fs,T.ows_num,T.ows_str,T.ows_sl,T.ows_nil] at h;obtain⟨_,rfl,_,rfl,v2,_,F2,_,rfl,rfl,h2,rfl,rfl⟩:=h;exact⟨v2,F2,rfl,rfl,h2⟩
theorem xP.ow_mk {w:World} {x:xP} {v2:Value} {F2:List Nat} (h2:T.ow w (T.sl 71 2 (x.zT.map xV.t)) F2 [v2]):T.ows w x.fs (F2++ []) [.string x.yH,.int .i64 x.zZ,v2]:=by
 unfold xP.fs;exact T.c_os (T.c_on (T.c_ol h2 (T.c_oe)))
structure vF where
 zC:List xP
deriving DecidableEq
def vF.fs (x:vF):List T:= [T.sl 74 3 (x.zC.map xP.t)]
def vF.good (x:vF):Prop:=(∀ y ∈ x.zC,xP.good y)
theorem vF.yT {w:World} {x:vF} {cs:List Value} (h:T.rds w x.fs cs): ∃ v0,cs= [v0]∧T.rd w (T.sl 74 3 (x.zC.map xP.t)) [v0]:=by
 simp only[vF.fs,T.rds_num,T.rds_str,T.rds_sl,T.rds_nil] at h;obtain⟨v0,_,rfl,h0,rfl⟩:=h;exact⟨v0,rfl,h0⟩
theorem vF.rd_mk {w:World} {x:vF} {v0:Value} (h0:T.rd w (T.sl 74 3 (x.zC.map xP.t)) [v0]):T.rds w x.fs [v0]:=by
 unfold vF.fs;exact T.c_rl h0 (T.c_re)
structure xR where
 zD:Int
 fA:Int
 fB:Int
 zO:List Int
deriving DecidableEq
def xR.fs (x:xR):List T:= [.num x.zD,.num x.fA,.num x.fB,T.ints 2 x.zO]
def xR.t (x:xR):T:= .st x.fs
def xR.good (x:xR):Prop:=I64 x.zD∧I64 x.fA∧I64 x.fB∧(∀ y ∈ x.zO,I64 y)
def xR.small (x:xR):Prop:=x.zO.length≤1048576
theorem xR.yT {w:World} {x:xR} {cs:List Value} (h:T.rds w x.fs cs): ∃ v3,cs= [.int .i64 x.zD,.int .i64 x.fA,.int .i64 x.fB,v3]∧T.rd w (T.ints 2 x.zO) [v3]:=by
 simp only[xR.fs,T.rds_num,T.rds_str,T.rds_sl,T.rds_nil] at h;obtain⟨_,rfl,_,rfl,_,rfl,v3,_,rfl,h3,rfl⟩:=h;exact⟨v3,rfl,h3⟩
theorem xR.rd_mk {w:World} {x:xR} {v3:Value} (h3:T.rd w (T.ints 2 x.zO) [v3]):T.rds w x.fs [.int .i64 x.zD,.int .i64 x.fA,.int .i64 x.fB,v3]:=by
 unfold xR.fs;exact T.c_rn (T.c_rn (T.c_rn (T.c_rl h3 (T.c_re))))
theorem xR.ow_open {w:World} {x:xR} {F:List Nat} {cs:List Value} (h:T.ows w x.fs F cs): ∃ v3 F3,cs= [.int .i64 x.zD,.int .i64 x.fA,.int .i64 x.fB,v3]∧F=F3++ []∧T.ow w (T.ints 2 x.zO) F3 [v3]:=by
 simp only[xR.fs,T.ows_num,T.ows_str,T.ows_sl,T.ows_nil] at h;obtain⟨_,rfl,_,rfl,_,rfl,v3,_,F3,_,rfl,rfl,h3,rfl,rfl⟩:=h;exact⟨v3,F3,rfl,rfl,h3⟩
theorem xR.ow_mk {w:World} {x:xR} {v3:Value} {F3:List Nat} (h3:T.ow w (T.ints 2 x.zO) F3 [v3]):T.ows w x.fs (F3++ []) [.int .i64 x.zD,.int .i64 x.fA,.int .i64 x.fB,v3]:=by
 unfold xR.fs;exact T.c_on (T.c_on (T.c_on (T.c_ol h3 (T.c_oe))))
structure xQ where
 zU:Int
 zY:List (List Int)
 zF:List xR
 zX:List Int
deriving DecidableEq
def xQ.fs (x:xQ):List T:= [.num x.zU,T.sl 26 1 (x.zY.map (T.ints 2)),T.sl 120 4 (x.zF.map xR.t),T.ints 2 x.zX]
def xQ.t (x:xQ):T:= .st x.fs
def xQ.good (x:xQ):Prop:=I64 x.zU∧(∀ l ∈ x.zY,∀ y ∈ l,I64 y)∧(∀ y ∈ x.zF,xR.good y)∧(∀ y ∈ x.zX,I64 y)
def xQ.small (x:xQ):Prop:=smL (fun l:List Int=>l.length≤1048576) x.zY∧smL xR.small x.zF∧x.zX.length≤1048576
theorem xQ.yT {w:World} {x:xQ} {cs:List Value} (h:T.rds w x.fs cs): ∃ v1 v2 v3,cs= [.int .i64 x.zU,v1,v2,v3]∧T.rd w (T.sl 26 1 (x.zY.map (T.ints 2))) [v1]∧T.rd w (T.sl 120 4 (x.zF.map xR.t)) [v2]∧T.rd w (T.ints 2 x.zX) [v3]:=by
 simp only[xQ.fs,T.rds_num,T.rds_str,T.rds_sl,T.rds_nil] at h;obtain⟨_,rfl,v1,_,rfl,h1,v2,_,rfl,h2,v3,_,rfl,h3,rfl⟩:=h;exact⟨v1,v2,v3,rfl,h1,h2,h3⟩
theorem xQ.rd_mk {w:World} {x:xQ} {v1:Value} {v2:Value} {v3:Value} (h1:T.rd w (T.sl 26 1 (x.zY.map (T.ints 2))) [v1]) (h2:T.rd w (T.sl 120 4 (x.zF.map xR.t)) [v2]) (h3:T.rd w (T.ints 2 x.zX) [v3]):T.rds w x.fs [.int .i64 x.zU,v1,v2,v3]:=by
 unfold xQ.fs;exact T.c_rn (T.c_rl h1 (T.c_rl h2 (T.c_rl h3 (T.c_re))))
theorem xQ.ow_mk {w:World} {x:xQ} {v1:Value} {F1:List Nat} {v2:Value} {F2:List Nat} {v3:Value} {F3:List Nat} (h1:T.ow w (T.sl 26 1 (x.zY.map (T.ints 2))) F1 [v1]) (h2:T.ow w (T.sl 120 4 (x.zF.map xR.t)) F2 [v2]) (h3:T.ow w (T.ints 2 x.zX) F3 [v3]):T.ows w x.fs (F1++(F2++(F3++ []))) [.int .i64 x.zU,v1,v2,v3]:=by
 unfold xQ.fs;exact T.c_on (T.c_ol h1 (T.c_ol h2 (T.c_ol h3 (T.c_oe))))
structure xO where
 zB:Int
 zI:List (List Int)
 zG:List xS
 zL:List Int
 zK:List xQ
 zH:vF
deriving DecidableEq
def xO.fs (x:xO):List T:= [.num x.zB,T.sl 26 1 (x.zI.map (T.ints 2)),T.sl 69 1 (x.zG.map xS.t),T.ints 2 x.zL,T.sl 81 4 (x.zK.map xQ.t),T.sl 74 3 (x.zH.zC.map xP.t)]
def xO.good (x:xO):Prop:=I64 x.zB∧(∀ l ∈ x.zI,∀ y ∈ l,I64 y)∧(∀ y ∈ x.zG,xS.good y)∧(∀ y ∈ x.zL,I64 y)∧(∀ y ∈ x.zK,xQ.good y)∧(∀ y ∈ x.zH.zC,xP.good y)
def xO.small (x:xO):Prop:=smL (fun l:List Int=>l.length≤1048576) x.zI∧smL xS.small x.zG∧x.zL.length≤1048576∧smL xQ.small x.zK∧smL xP.small x.zH.zC
theorem xO.yT {w:World} {x:xO} {cs:List Value} (h:T.rds w x.fs cs): ∃ v1 v2 v3 v4 v5,cs= [.int .i64 x.zB,v1,v2,v3,v4,v5]∧T.rd w (T.sl 26 1 (x.zI.map (T.ints 2))) [v1]∧T.rd w (T.sl 69 1 (x.zG.map xS.t)) [v2]∧T.rd w (T.ints 2 x.zL) [v3]∧T.rd w (T.sl 81 4 (x.zK.map xQ.t)) [v4]∧T.rd w (T.sl 74 3 (x.zH.zC.map xP.t)) [v5]:=by
 simp only[xO.fs,T.rds_num,T.rds_str,T.rds_sl,T.rds_nil] at h;obtain⟨_,rfl,v1,_,rfl,h1,v2,_,rfl,h2,v3,_,rfl,h3,v4,_,rfl,h4,v5,_,rfl,h5,rfl⟩:=h;exact⟨v1,v2,v3,v4,v5,rfl,h1,h2,h3,h4,h5⟩
theorem xO.rd_mk {w:World} {x:xO} {v1:Value} {v2:Value} {v3:Value} {v4:Value} {v5:Value} (h1:T.rd w (T.sl 26 1 (x.zI.map (T.ints 2))) [v1]) (h2:T.rd w (T.sl 69 1 (x.zG.map xS.t)) [v2]) (h3:T.rd w (T.ints 2 x.zL) [v3]) (h4:T.rd w (T.sl 81 4 (x.zK.map xQ.t)) [v4]) (h5:T.rd w (T.sl 74 3 (x.zH.zC.map xP.t)) [v5]):T.rds w x.fs [.int .i64 x.zB,v1,v2,v3,v4,v5]:=by
 unfold xO.fs;exact T.c_rn (T.c_rl h1 (T.c_rl h2 (T.c_rl h3 (T.c_rl h4 (T.c_rl h5 (T.c_re))))))
theorem xO.ow_mk {w:World} {x:xO} {v1:Value} {F1:List Nat} {v2:Value} {F2:List Nat} {v3:Value} {F3:List Nat} {v4:Value} {F4:List Nat} {v5:Value} {F5:List Nat} (h1:T.ow w (T.sl 26 1 (x.zI.map (T.ints 2))) F1 [v1]) (h2:T.ow w (T.sl 69 1 (x.zG.map xS.t)) F2 [v2]) (h3:T.ow w (T.ints 2 x.zL) F3 [v3]) (h4:T.ow w (T.sl 81 4 (x.zK.map xQ.t)) F4 [v4]) (h5:T.ow w (T.sl 74 3 (x.zH.zC.map xP.t)) F5 [v5]):T.ows w x.fs (F1++(F2++(F3++(F4++(F5++ []))))) [.int .i64 x.zB,v1,v2,v3,v4,v5]:=by
 unfold xO.fs;exact T.c_on (T.c_ol h1 (T.c_ol h2 (T.c_ol h3 (T.c_ol h4 (T.c_ol h5 (T.c_oe))))))
structure wV where
 zD:Int
 yD:Int
 yG:Int
 yF:Int
 yC:xU
deriving DecidableEq
def wV.fs (x:wV):List T:= [.num x.zD,.num x.yD,.num x.yG,.num x.yF,.num x.yC.zV,.num x.yC.zO,.num x.yC.zB,.num x.yC.yE,.num x.yC.yB]
theorem wV.yT {w:World} {x:wV} {cs:List Value} (h:T.rds w x.fs cs):cs= [.int .i64 x.zD,.int .i64 x.yD,.int .i64 x.yG,.int .i64 x.yF,.int .i64 x.yC.zV,.int .i64 x.yC.zO,.int .i64 x.yC.zB,.int .i64 x.yC.yE,.int .i64 x.yC.yB]:=by
 simp only[wV.fs,T.rds_num,T.rds_str,T.rds_sl,T.rds_nil] at h;obtain⟨_,rfl,_,rfl,_,rfl,_,rfl,_,rfl,_,rfl,_,rfl,_,rfl,_,rfl,rfl⟩:=h;exact rfl
theorem wV.rd_mk {w:World} {x:wV} :T.rds w x.fs [.int .i64 x.zD,.int .i64 x.yD,.int .i64 x.yG,.int .i64 x.yF,.int .i64 x.yC.zV,.int .i64 x.yC.zO,.int .i64 x.yC.zB,.int .i64 x.yC.yE,.int .i64 x.yC.yB]:=by
 unfold wV.fs;exact T.c_rn (T.c_rn (T.c_rn (T.c_rn (T.c_rn (T.c_rn (T.c_rn (T.c_rn (T.c_rn (T.c_re)))))))))
end
section
open Go.RowKit
noncomputable def tf (p:Prop):Bool:= @decide p (Classical.propDecidable p)
theorem xI {p:Prop} (h:p):tf p=true:=by unfold tf;exact @decide_eq_true p (Classical.propDecidable p) h
theorem xH {p:Prop} (h: ¬ p):tf p=false:=by unfold tf;exact @decide_eq_false p (Classical.propDecidable p) h
theorem tf_iff {p q:Prop} (h:p↔q):tf p=tf q:=by rw[propext h]
theorem zPy {p:Prop} :tf p=true↔p:=by
 constructor
 ·intro e
  apply Classical.byContradiction
  intro h;rw[xH h] at e;exact absurd e (by simp)
 ·exact xI
theorem uZ {p:Prop} [d:Decidable p]:tf p=decide p:=by
 by_cases h:p
 ·rw[xI h,decide_eq_true h]
 ·rw[xH h,decide_eq_false h]
theorem wZz {p q:Prop} :(tf p && tf q)=tf (p∧q):=by
 rw[Bool.eq_iff_iff];simp[zPy]
def vU {α:Type} (xs:List α) (Q:Nat→α→Prop) (k:Nat):Prop:= ∀ i x,i<k→xs[i]?=some x→Q i x
def Each {α:Type} (xs:List α) (Q:Nat→α→Prop):Prop:= ∀ i x,xs[i]?=some x→Q i x
section
variable {α:Type} {xs:List α} {Q:Nat→α→Prop} {k:Nat} {x:α}
theorem vU.zero:vU xs Q 0:=fun i _ h=>absurd h (Nat.not_lt_zero i)
theorem vU.step (h:vU xs Q k) (hx:xs[k]?=some x) (q:Q k x):vU xs Q (k+1):=by
 intro i y hi hy;by_cases e:i=k
 ·subst e
  rw[hx] at hy;injection hy with hy;subst hy;exact q
 ·exact h i y zM hy
theorem vU.all (h:vU xs Q k) (hk:xs.length≤k):Each xs Q:=fun i y hy=>h i y (zW (List.getElem?_eq_some_iff.1 hy).1 hk) hy
theorem Each.of_mem {P:α→Prop} :Each xs (fun _ y=>P y)↔ ∀ y ∈ xs,P y:=by
 constructor
 ·intro h y hy
  obtain⟨i,hi,rfl⟩:=List.mem_iff_getElem.1 hy;exact h i _ (gE hi)
 ·intro h i y hy
  exact h y (List.mem_of_getElem? hy)
end
def Idx (l:List Int) (n:Int):Prop:=Each l fun _ x=>0≤x∧x≤n - 1
structure zLz (c:xU):Prop where
 source:inB c.zV 0 5=true
 length:inB c.zB 1 4000=true
 from_:inB c.zO 0 (4000 - c.zB)=true
 at_:inB c.yE 0 (4000 - c.zB)=true
 gain:Smp c.yB
structure zAz (t:xS):Prop where
 clips:Each t.zS fun i c=>zLz c∧ ∀ p,0<i→t.zS[i - 1]?=some p→p.yE≤c.yE
 few:t.zS.length≤12
def befS (l:List xV) (strip:Int) (i:Nat):Int:=if i=0 then strip else (l.getD (i - 1) ⟨0,0⟩).yI
structure vEz (l:List xV) (strip n:Int):Prop where
 each:Each l fun i x=>inB x.yI (befS l strip i+1) (n - 1)=true∧Smp x.yB
 last:strip=n - 1→l.length=0
 few:strip≠n - 1→1≤l.length∧l.length≤4
def uBz (c:Nat):Prop:=97≤c∧c≤122
def uCz (c:Nat):Prop:=48≤c∧c≤57
structure NameOk (s:ByteArray):Prop where
 some_:1≤s.size
 few:s.size≤10
 each: ∀ i,i<s.size→uBz (bA s i)∨(uCz (bA s i)∧i≠0)
structure StripOk (x:xP) (i n:Int):Prop where
 name:NameOk x.yH
 latency:inB x.zZ 0 32=true
 sends:vEz x.zT i n
structure zSz (m:vF):Prop where
 some_:1≤m.zC.length
 few:m.zC.length≤8
 each:Each m.zC fun i x=>StripOk x (i:Int) (m.zC.length:Int)∧ ∀ j y,j<i→m.zC[j]?=some y→y.yH≠x.yH
structure xGz (ss:List (List Int)):Prop where
 each:Each ss fun _ l=>sigB l=true
 few:ss.length≤6
structure vAz (ts:List (List Int)):Prop where
 each:Each ts fun _ t=>(t.length=2∨t.length=4∨t.length=8∨t.length=16)∧smpB t=true
 few:ts.length≤4
structure Knd where
 inputs:Int
 low:Int
 high:Int
 linear:Bool
 hasB:Bool
def kndL:List Knd:= [⟨0,0,3,true,false⟩,⟨0,-2147483648,2147483647,false,false⟩,⟨2,1,0,true,false⟩,⟨2,1,0,true,false⟩,⟨1,-2147483648,2147483647,true,false⟩,⟨1,1,16,true,false⟩,⟨1,1,0,true,false⟩,⟨1,1,0,true,false⟩,⟨2,1,0,false,false⟩,⟨1,0,31,false,false⟩,⟨1,0,2147483647,false,false⟩,⟨1,-2147483648,2147483647,false,false⟩,⟨1,0,3,false,false⟩,⟨0,-2147483648,2147483647,false,false⟩,⟨3,1,0,false,false⟩,⟨2,1,0,false,false⟩,⟨1,-2147483648,2147483647,true,true⟩]
def uF (k:Int):Knd:=kndL.getD (k - 1).toNat ⟨0,0,0,false,false⟩
structure yCz (x:xR) (tables:Int):Prop where
 kind:inB x.zD 1 17=true
 a:if (uF x.zD).low≤(uF x.zD).high then inB x.fA (uF x.zD).low (uF x.zD).high=true else x.fA=0
 b:if (uF x.zD).hasB then inB x.fB 1 16=true else x.fB=0
 from_:Each x.zO fun _ f=>inB f 0 23=true
 arity:(x.zO.length:Int)=(uF x.zD).inputs
 table:x.zD=13→x.fA<tables
structure wDz (p:xQ):Prop where
 inputs:inB p.zU 0 4=true
 tables:vAz p.zY
 few:p.zF.length≤24
 outs:p.zX.length≤4
 outputs:Idx p.zX (p.zF.length:Int)
 nodes:Each p.zF fun _ x=>yCz x (p.zY.length:Int)∧Idx x.zO (p.zF.length:Int)∧(x.zD=1→x.fA<p.zU)
def zBz (x:xR):List Int:=if x.zD=6 then [] else x.zO
def yNz (nodes:List xR) (out:List Int) (i:Nat):Bool:= !out.contains (i:Int) && ((nodes[i]?).map fun x=>(zBz x).all fun f=>out.contains f).getD false
def vRz (nodes:List xR) (out:List Int):Option Nat:=(List.range nodes.length).find? (yNz nodes out)
def xJ (nodes:List xR):Nat→List Int
 |0=> []
 |k+1=>match vRz nodes (xJ nodes k) with
  |some i=>xJ nodes k++ [(i:Int)]
  |none=>xJ nodes k
def xY (nodes:List xR):List Int:=xJ nodes nodes.length
theorem zZy {nodes:List xR} {k:Nat} (h:vRz nodes (xJ nodes k)=none): ∀ m,xJ nodes (k+m)=xJ nodes k:=by
 intro m
 induction m with
 |zero=>rfl
 |succ m ih=>
  rw[←Nat.add_assoc];simp only[xJ];rw[ih,h]
theorem yRy {nodes:List xR} : ∀ k,(xJ nodes k).length≤k
 |0=>zJ
 |k+1=>by
  have ih:=yRy (nodes:=nodes) k;simp only[xJ]
  split
  ·simp;omega
  ·omega
theorem nextF_some {nodes:List xR} {out:List Int} {i:Nat} (hi:i<nodes.length) (hr:yNz nodes out i=true) (hb: ∀ j,j<i→yNz nodes out j=false):vRz nodes out=some i:=by
 unfold vRz;rw[List.find?_eq_some_iff_getElem];refine⟨hr,i,by simpa using hi,by simp,fun j hj=>by simp[hb j hj]⟩
theorem nextF_none {nodes:List xR} {out:List Int} (hb: ∀ j,j<nodes.length→yNz nodes out j=false):vRz nodes out=none:=by
 unfold vRz;rw[List.find?_eq_none];intro j hj;simp[hb j (by simpa using hj)]
theorem nextF_inv {nodes:List xR} {out:List Int} {i:Nat} (h:vRz nodes out=some i):i<nodes.length∧yNz nodes out i=true:=by
 unfold vRz at h;exact⟨by simpa using List.mem_of_find?_eq_some h,List.find?_some h⟩
theorem vFz {nodes:List xR} : ∀ k,(xJ nodes k).Nodup∧ ∀ x ∈ xJ nodes k,0≤x∧x<(nodes.length:Int)
 |0=>by simp[xJ]
 |k+1=>by
  obtain⟨h1,h2⟩:=vFz (nodes:=nodes) k;simp only[xJ]
  split
  ·next i h=>
   obtain⟨hi,hr⟩:=nextF_inv h
   have hn:(i:Int) ∉ xJ nodes k:=by
    simp only[yNz,Bool.and_eq_true,Bool.not_eq_true'] at hr
    simpa using hr.1
   refine⟨?_,?_⟩
   ·rw[List.nodup_append]
    refine⟨h1,by simp,fun a ha b hb e=>?_⟩;simp at hb;subst hb e;exact hn ha
   ·intro x hx
    rcases List.mem_append.1 hx with hx|hx
    ·exact h2 x hx
    ·simp at hx;subst hx;omega
  ·exact⟨h1,h2⟩
theorem nodup_range: ∀ (n:Nat) (l:List Nat),l.Nodup→(∀ x ∈ l,x<n)→l.length≤n
 |0,[],_,_=>zJ
 |0,x :: _,_,h=>absurd (h x (by simp)) zM
 |n+1,l,h1,h2=>by
  by_cases hm:n ∈ l
  ·have h3:=nodup_range n (l.erase n) (h1.erase n) (fun x hx=>by
    have:=(h1.mem_erase_iff).1 hx;have h4:=h2 x this.2;have h5:=this.1
    omega)
   rw[List.length_erase_of_mem hm] at h3
   omega
  ·have h3:=nodup_range n l h1 (fun x hx=>by
    have h4:=h2 x hx;have:x≠n:=fun e=>hm (e ▸ hx)
    omega)
   omega
theorem nodup_bound {n:Nat} {l:List Int} (h1:l.Nodup) (h2: ∀ x ∈ l,0≤x∧x<(n:Int)):l.length≤n:=by
 have h3:(l.map Int.toNat).Nodup:=by
  rw[List.Nodup,List.pairwise_map];refine List.Pairwise.imp_of_mem ?_ h1;intro a b ha hb hab e;have:=h2 a ha;have:=h2 b hb
  omega
 have:=nodup_range n _ h3 (fun x hx=>by
  obtain⟨y,hy,rfl⟩:=List.mem_map.1 hx;have:=h2 y hy
  omega)
 simpa using this
theorem wUz {nodes:List xR} (k:Nat):(xJ nodes k).length≤nodes.length:=nodup_bound (vFz k).1 (vFz k).2
theorem uVz {nodes:List xR} {k:Nat} (h:vRz nodes (xJ nodes k)=none) (hk:(xJ nodes k).length=k):xY nodes=xJ nodes k:=by
 have hc:=wUz (nodes:=nodes) k;unfold xY;rw[show nodes.length=k+(nodes.length - k) by omega];exact zZy h _
theorem vLz {nodes:List xR} {k i:Nat} (h:vRz nodes (xJ nodes k)=some i):xJ nodes (k+1)=xJ nodes k++ [(i:Int)]:=by
 simp only[xJ,h]
structure vZ (p:xQ):Prop where
 formed:wDz p
 order:(xY p.zF).length=p.zF.length
def uO:xQ:=⟨0,[],[],[]⟩
def wEz (p:xQ):Prop:=p=uO∨(vZ p∧p.zU=1∧p.zX.length=1)
structure xW (s:xO):Prop where
 length:inB s.zB 0 1000=true
 sources:xGz s.zI
 few:s.zG.length≤6
 mixer:zSz s.zH
 feed:s.zL.length=s.zG.length
 feeds:Idx s.zL (s.zH.zC.length:Int)
 effect:s.zK.length=s.zH.zC.length
 tracks:Each s.zG fun _ t=>zAz t∧Each t.zS fun _ c=>c.zV<(s.zI.length:Int)
 effects:Each s.zK fun _ p=>wEz p
end
end Go.Proofs.YtdcofkabaigjpaaGreat
