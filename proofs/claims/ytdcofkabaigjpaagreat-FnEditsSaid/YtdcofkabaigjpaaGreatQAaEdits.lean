/- Words for memory: a slice that reads as a list, a slice of the call's own, kept over what other calls do. No program is named here. Words for memory: a block known whole; a world that differs in one block. Plain functions on numbers and lists: what the small functions compute. No program is named here. Contracts of the smallest functions. Contracts: a source of drawn numbers. Contracts: lists of samples, copies, differences. Contracts: equal lists, marks, copies, differences. Contracts: wrapped numbers, copies, differences. Contracts: numbers drawn out of a source. -/
import Derived.WalkKit
import Derived.WalkSpells
import Derived.WalkLawsBesides
import Derived.Deep.AppendLies
import Derived.Maps.AppendAt
import Derived.Deep.Draws
import Derived.Deep.QuietTactic
import Derived.BigQuiet
import Derived.Test.YtdcofkabaigjpaaGreatRows
import Derived.Laws.Bits64b
set_option linter.unusedVariables false
set_option linter.unusedSimpArgs false
set_option maxHeartbeats 2000000
set_option maxRecDepth 100000
namespace Go.Proofs.YtdcofkabaigjpaaGreat
section
open Go.RowKit

def Dr (w w':World):Prop:= ∃ n,w'=w.drewN n
theorem Dr.refl (w:World):Dr w w:=⟨0,rfl⟩
theorem Dr.trans {a b c:World} (h:Dr a b) (k:Dr b c):Dr a c:=by
 obtain⟨n,rfl⟩:=h;obtain⟨m,rfl⟩:=k;exact⟨n+m,World.drewN_drewN _ _ _⟩
theorem Dr.drew {a b:World} (h:Dr a b):Dr a b.drew:=h.trans ⟨1,rfl⟩
theorem Dr.drewN {a b:World} (h:Dr a b) (n:Nat):Dr a (b.drewN n):=h.trans ⟨n,rfl⟩
theorem Dr.below {a b c:World} {B:Nat} (h:Below B a b) (k:Dr b c):Below B a c:=by
 obtain⟨n,rfl⟩:=k;exact⟨h.os,h.tape,h.output,h.size,h.block⟩
theorem Dr.to_below {a b:World} (h:Dr a b) (B:Nat):Below B a b:=Dr.below (Below.refl _ _) h
theorem vN {k:IntKind} {a b:Int} (h:a=b):Ending.returned (.int k a)= .returned (.int k b):=by rw[h]
theorem yN {a b:Bool} (h:a=b):Ending.returned (.bool a)= .returned (.bool b):=by rw[h]
structure Sec (p:Prop):Prop where
 o:p
theorem xN {p:Prop} (h:p):Sec p:=⟨h⟩
def Rd (w:World) (v:Value) (size n:Nat) (cs:List Value):Prop:=
 cs.length=n * size∧ ∃ A cap,v= .slice A n cap∧n≤cap∧cap≤9223372036854775807∧
  (0<n→ ∃ b off,A=some ⟨b,off,none⟩∧b<w.heap.size∧ ∀ j u,cs[j]?=some u→w.cell? ⟨b,off+j,none⟩=some u)

section
variable {w w':World} {v:Value} {size n:Nat} {cs:List Value}
theorem Rd.keep (h:Rd w v size n cs) (hs:w.heap.size≤w'.heap.size) (hk: ∀ b,v.ownBlock=some b→b<w.heap.size→w'.heap[b]?=w.heap[b]?):Rd w' v size n cs:=by
 obtain⟨h1,A,cap,rfl,h3,h4,h5⟩:=h;refine⟨h1,A,cap,rfl,h3,h4,fun hn=>?_⟩;obtain⟨b,off,rfl,hb,hc⟩:=h5 hn;exact⟨b,off,rfl,by omega,fun j u hu=>(World.cell?_of_block (hk b rfl hb)).trans (hc j u hu)⟩
theorem Rd.below (h:Rd w v size n cs) (hb:Below w.heap.size w w'):Rd w' v size n cs:=h.keep hb.size fun b _ hlt=>hb.block b hlt
theorem Rd.below_of {B:Nat} (h:Rd w v size n cs) (hb:Below B w w') (hv: ∀ b,v.ownBlock=some b→b<B):Rd w' v size n cs:=h.keep hb.size fun b e _=>hb.block b (hv b e)
theorem Rd.grown {row:Option Nat} (h:Rd w v size n cs) (hg:w.grownBy w' row) (hv: ∀ b,v.ownBlock=some b→some b≠row):Rd w' v size n cs:=
 h.keep hg.size fun b e hlt=>hg.block b hlt (hv b e)
theorem Rd.alloc (h:Rd w v size n cs) (o:Obj):Rd (w.alloc o) v size n cs:=h.keep (by simp) fun b _ hlt=>Below.heap_alloc w o b hlt
theorem Rd.drewN (h:Rd w v size n cs) (k:Nat):Rd (w.drewN k) v size n cs:=h
theorem Rd.nil_ (w:World) (size:Nat):Rd w (.slice none 0 0) size 0 []:=⟨by simp,none,0,rfl,Nat.le_refl _,by omega,fun h=>absurd h (by omega)⟩
theorem Rd.of_own {base:Nat} {e:TypeId} (h:w.ownsRow base e size v n cs):Rd w v size n cs:=by
 refine⟨h.1,?_⟩
 rcases h.2 with ⟨rfl,rfl⟩|⟨g,cap,cur,rfl,hb,hg,hn,hm,hs,ht⟩
 ·exact⟨none,0,rfl,Nat.le_refl _,by omega,fun h=>absurd h (by omega)⟩
 ·refine⟨some ⟨g,0,none⟩,cap,rfl,hn,by unfold maxLen at hm;omega,fun hpos=>⟨g,0,rfl,(Array.getElem?_eq_some_iff.1 hg).1,fun j u hu=>?_⟩⟩
  have:=h.cells (g:=g) rfl j u hu;rw[show (⟨g,0+j,none⟩:Addr)=(⟨g,0,none⟩:Addr).add j by unfold Addr.add;split<;>simp_all];exact this
end

def RdI (w:World) (v:Value) (xs:List Int):Prop:=Rd w v 1 xs.length (xs.map (Value.int .i64))
def OwI (E:TypeId) (w:World) (B:Nat) (v:Value) (xs:List Int):Prop:=w.ownsRow B E 1 v xs.length (xs.map (Value.int .i64))

section
variable {w w':World} {v:Value} {xs:List Int} {E:TypeId} {B:Nat}
theorem OwI.rd (h:OwI E w B v xs):RdI w v xs:=Rd.of_own h
theorem OwI.lt (h:OwI E w B v xs): ∀ k,v.ownBlock=some k→B≤k∧k<w.heap.size:=World.ownsRow.lt h
theorem RdI.below (h:RdI w v xs) (hb:Below w.heap.size w w'):RdI w' v xs:=Rd.below h hb
theorem RdI.grown {row:Option Nat} (h:RdI w v xs) (hg:w.grownBy w' row) (hv: ∀ b,v.ownBlock=some b→some b≠row):RdI w' v xs:=Rd.grown h hg hv
theorem RdI.open_ (h:RdI w v xs): ∃ A cap,v= .slice A xs.length cap∧xs.length≤cap∧cap≤9223372036854775807∧
  (∀ k x,xs[k]?=some x→ ∃ b off,A=some ⟨b,off,none⟩∧b<w.heap.size∧w.cell? ⟨b,off+k,none⟩=some (.int .i64 x)):=by
 obtain⟨_,A,cap,rfl,h3,h4,h5⟩:=h;refine⟨A,cap,rfl,h3,h4,fun k x hk=>?_⟩;obtain⟨b,off,rfl,hb,hc⟩:=h5 (by have:=(List.getElem?_eq_some_iff.1 hk).1;omega);exact⟨b,off,rfl,hb,hc k _ (by rw[List.getElem?_map,hk];rfl)⟩
theorem OwI.below {C:Nat} (h:OwI E w B v xs) (hb:Below C w w') (hC: ∀ b,v.ownBlock=some b→b<C):OwI E w' B v xs:=by
 refine⟨h.1,?_⟩
 rcases h.2 with hn|⟨g,cap,cur,rfl,hbg,hg,rest⟩
 ·exact .inl hn
 ·exact .inr ⟨g,cap,cur,rfl,hbg,by rw[hb.block g (hC g rfl)];exact hg,rest⟩
theorem OwI.more {B':Nat} (h:OwI E w B v xs) (hB:B'≤B):OwI E w B' v xs:=by
 refine⟨h.1,?_⟩
 rcases h.2 with hn|⟨g,cap,cur,rfl,hbg,hg,rest⟩
 ·exact .inl hn
 ·exact .inr ⟨g,cap,cur,rfl,by omega,hg,rest⟩
end

section
variable {P:Program}
theorem uAz {w:World} {ops:Array Oper} {rest:List Oper} {o:Oper} {a:Act} {Q:Exit→Act→World→Prop} {news:Array Value} (hgd:o.guard=none) (s x:Operand) (t:TypeId)
  (ho:o.op= .call { callee:= .builtin .append,args:= #[s,x],argTypes:= #[t,t] })
  (base:Nat) (e:TypeId) (z:Value) (size bytes:Nat) (ht:P.underlying t=some (.slice e)) (hinfo:(P.info? e).map (fun i=>(i.zero,i.size,i.bytes))=some (some z,size,bytes))
  (hzs:z.cells.size=size) (hsz:0<size)
  (v:Value) (n:Nat) (xs:List Value) (hs:a.eval s=v) (hown:w.ownsRow base e size v n xs)
  (hx:a.eval x= .slice (some ⟨w.heap.size,0,none⟩) 1 1) (hl:news.size=size) (h1: ∀ u ∈ news.toList,u.oneCell'=true)
  (hbytes:(n+1) * bytes≤140737488355328) (h63:n+1≤9223372036854775807) (hbase:base≤w.heap.size)
  (h: ∀ v' w',w'.ownsRow base e size v' (n+1) (xs++news.toList)→w.grownBy w' v.ownBlock→(∀ k,v'.ownBlock=some k→v.ownBlock=some k∨w.heap.size≤k)→wpList P ops Q rest (a.put o.dst v') w'):
  wpList P ops Q (o :: rest) a (w.alloc (.cells news e)):=by
 obtain⟨i0,hi,hz0,hz1,hz2⟩:=info_parts hinfo;refine wpList_append_own_at _ hgd s x t ho base e i0 z size bytes ht hi hz0 hz1 hz2 hzs hsz v n xs hs (hown.alloc _) ⟨w.heap.size,0,none⟩ 1 1 news.toList hx (by simp[hl]) ?_ h1 (by unfold maxLen;omega) hbytes (by simp;omega) ?_
 ·exact World.news_of_block (heap_alloc_new w _)
 ·intro v' w' h2 h3 _ h5
  refine h v' w' h2 ((World.grownBy_alloc w _ _).trans h3) fun k hk=>?_
  rcases h5 with h5|h5
  ·exact .inl (h5 ▸ hk)
  ·rw[h5] at hk;simp at hk;exact .inr (by omega)
theorem yFz {w:World} {ops:Array Oper} {rest:List Oper} {o:Oper} {a:Act} {Q:Exit→Act→World→Prop} (hgd:o.guard=none) (s x:Operand) (t:TypeId)
  (ho:o.op= .call { callee:= .builtin .append,args:= #[s,x],argTypes:= #[t,t] })
  (base:Nat) (e:TypeId) (z:Value) (size bytes:Nat) (ht:P.underlying t=some (.slice e)) (hinfo:(P.info? e).map (fun i=>(i.zero,i.size,i.bytes))=some (some z,size,bytes))
  (hzs:z.cells.size=size) (hsz:0<size)
  (v:Value) (n:Nat) (xs:List Value) (hs:a.eval s=v) (hown:w.ownsRow base e size v n xs)
  (y:Value) (m:Nat) (ys:List Value) (hx:a.eval x=y) (hr:Rd w y size m ys) (h1: ∀ u ∈ ys,u.oneCell'=true)
  (hbytes:(n+m) * bytes≤140737488355328) (h63:n+m≤9223372036854775807) (hbase:base≤w.heap.size)
  (h: ∀ v' w',w'.ownsRow base e size v' (n+m) (xs++ys)→w.grownBy w' v.ownBlock→(∀ k,v'.ownBlock=some k→v.ownBlock=some k∨w.heap.size≤k)→wpList P ops Q rest (a.put o.dst v') w'):
  wpList P ops Q (o :: rest) a w:=by
 obtain⟨i0,hi,hz0,hz1,hz2⟩:=info_parts hinfo;obtain⟨hl,A,cap,rfl,hc1,hc2,hcell⟩:=hr
 rcases Nat.eq_zero_or_pos m with hm|hm
 ·subst hm
  have hn:ys= []:=List.eq_nil_of_length_eq_zero (by simpa using hl);subst hn
  have hrun:(Builtin.append_ #[t,t] o.type #[v,.slice A 0 cap]).run P w= .ok v w:=by
   rcases hown.2 with ⟨rfl,rfl⟩|⟨g,cap',cur,rfl,_,_,hnc,_⟩
   ·cases A<;>simp[Builtin.append_,run_underlying ht,sizeOf,typeInfo,hi,Builtin.lenOf,Builtin.firstCells,loadCells,loadCellsFrom]
   ·cases A<;>simp[Builtin.append_,run_underlying ht,sizeOf,typeInfo,hi,Builtin.lenOf,Builtin.firstCells,hnc,storeCells,loadCells,loadCellsFrom]
  refine wpList_plain hgd fun K hK=>?_
  unfold Oper.wp execOp;simp only[ho,resolve,invoke,builtin,Sem.run_bind,Sem.run_pure,Result.andThen_ok,List.map_toArray,List.map_cons,List.map_nil,hs,hx,hrun];exact hK _ _ (h v w (by simpa using hown) (World.grownBy.refl _ _) fun k hk=> .inl hk)
 ·obtain⟨b,off,rfl,hb,hcc⟩:=hcell hm
  refine wpList_append_own_at _ hgd s x t ho base e i0 z size bytes ht hi hz0 hz1 hz2 hzs hsz v n xs hs hown ⟨b,off,none⟩ m cap ys hx hl ?_ h1 (by unfold maxLen;omega) hbytes hbase ?_
  ·intro j u hu
   rw[show (⟨b,off,none⟩:Addr).add j=⟨b,off+j,none⟩ by unfold Addr.add;split<;>simp_all];exact hcc j u hu
  ·intro v' w' h2 h3 _ h5
   refine h v' w' h2 h3 fun k hk=>?_
   rcases h5 with h5|h5
   ·exact .inl (h5 ▸ hk)
   ·rw[h5] at hk;simp at hk;exact .inr (by omega)
end

theorem zOz {base:Nat} {e:TypeId} {size n:Nat} {v:Value} {cs:List Value} {B:Nat} {w0 w w':World} (hb:Below B w0 w) (hown:w.ownsRow base e size v n cs) (hg:w.grownBy w' v.ownBlock) (h1:B≤base) (h2:B≤w.heap.size):Below B w0 w':=
 hb.grown hg h2 fun k hk=>Nat.le_trans h1 (hown.lt k hk).1
section
variable {w:World} {E:TypeId} {B:Nat} {v:Value} {xs:List Int}
theorem OwI.form (h:OwI E w B v xs) (hn:0<xs.length): ∃ g cap,v= .slice (some ⟨g,0,none⟩) xs.length cap∧xs.length≤cap∧B≤g∧g<w.heap.size:=by
 rcases h.2 with ⟨_,h0⟩|⟨g,cap,cur,rfl,hbg,hg,hnc,_⟩
 ·omega
 ·exact⟨g,cap,rfl,hnc,hbg,(Array.getElem?_eq_some_iff.1 hg).1⟩
theorem OwI.cell {g cap:Nat} (h:OwI E w B (.slice (some ⟨g,0,none⟩) xs.length cap) xs) {j:Nat} {x:Int} (hj:xs[j]?=some x):w.cell? ⟨g,j,none⟩=some (.int .i64 x):=by
 have hl:=(List.getElem?_eq_some_iff.1 hj).1;have:=World.ownsRow.cellAt h j (by omega);rw[this,List.getElem?_map,hj];rfl
theorem OwI.free {g cap:Nat} (h:OwI E w B (.slice (some ⟨g,0,none⟩) xs.length cap) xs) (j:Nat):w.frozen? ⟨g,j,none⟩=false:=World.ownsRow.frozenAt h j
theorem OwI.set_ {g cap:Nat} (h:OwI E w B (.slice (some ⟨g,0,none⟩) xs.length cap) xs) (j:Nat) (x:Int):
  OwI E (w.setCell ⟨g,j,none⟩ (.int .i64 x)) B (.slice (some ⟨g,0,none⟩) xs.length cap) (xs.set j x):=by
 have:=(World.ownsRow.stored h j (.int .i64 x)).1;unfold OwI;rw[List.map_set,List.length_set];exact this
theorem OwI.nil_ (E:TypeId) (w:World) (B:Nat):OwI E w B (.slice none 0 0) []:=World.ownsRow_nil w B E 1
theorem OwI.made (E:TypeId) (w:World) {n:Nat} (hB:B≤w.heap.size) (hn:n≤maxLen) (z:Int) (h:w.ownsRow B E 1 v n (madeCells (Value.int .i64 z).cells (n * 1)).toList):OwI E w B v (List.replicate n z):=by
 unfold OwI
 have e:(madeCells (Value.int .i64 z).cells (n * 1)).toList=List.replicate n (Value.int .i64 z):=by
  rw[Nat.mul_one];exact toList_madeCells_one _ n
 rw[e] at h
 simpa using h
end

section
variable {w w':World} {E:TypeId} {B:Nat} {xs:List Int} {g n cap:Nat}
theorem OwI.cellN (h:OwI E w B (.slice (some ⟨g,0,none⟩) n cap) xs) {j:Nat} {x:Int} (hj:xs[j]?=some x):w.cell? ⟨g,j,none⟩=some (.int .i64 x):=by
 have hl:=(List.getElem?_eq_some_iff.1 hj).1
 have hn:n=xs.length:=by
  rcases h.2 with ⟨h',_⟩|⟨g',cap',cur,h',_⟩
  ·cases h'
  ·injection h'
 subst hn;exact h.cell hj
theorem OwI.freeN (h:OwI E w B (.slice (some ⟨g,0,none⟩) n cap) xs) (j:Nat):w.frozen? ⟨g,j,none⟩=false:=by
 have hn:n=xs.length:=by
  rcases h.2 with ⟨h',_⟩|⟨g',cap',cur,h',_⟩
  ·cases h'
  ·injection h'
 subst hn;exact h.free j
theorem OwI.setN (h:OwI E w B (.slice (some ⟨g,0,none⟩) n cap) xs) (j:Nat) (x:Int):OwI E (w.setCell ⟨g,j,none⟩ (.int .i64 x)) B (.slice (some ⟨g,0,none⟩) n cap) (xs.set j x):=by
 have hn:n=xs.length:=by
  rcases h.2 with ⟨h',_⟩|⟨g',cap',cur,h',_⟩
  ·cases h'
  ·injection h'
 subst hn;exact h.set_ j x
theorem OwI.grownN (h:OwI E w B (.slice (some ⟨g,0,none⟩) n cap) xs) (j:Nat) (u:Value):w.grownBy (w.setCell ⟨g,j,none⟩ u) (some g):=by
 have hn:n=xs.length:=by
  rcases h.2 with ⟨h',_⟩|⟨g',cap',cur,h',_⟩
  ·cases h'
  ·injection h'
 subst hn;exact(World.ownsRow.stored h j u).2
theorem OwI.sizeN (h:OwI E w B (.slice (some ⟨g,0,none⟩) n cap) xs):n=xs.length:=by
 rcases h.2 with ⟨h',_⟩|⟨g',cap',cur,h',_⟩
 ·cases h'
 ·injection h'
end

theorem yO {a b c:World} {B:Nat} (h:Below B a b) (hB:B≤b.heap.size) (k:Below b.heap.size b c):Below B a c:=h.trans (k.mono hB)
def RdY (w:World) (v:Value) (bs:List UInt8):Prop:=Rd w v 1 bs.length (bs.map fun b=>Value.int .u8 (b.toNat:Int))
def bA (s:ByteArray) (n:Nat):Nat:=(s.data.toList.getD n 0).toNat
theorem bA_get {s:ByteArray} {n:Nat} (h:n<s.size):(s[n]'h).toNat=bA s n:=by
 unfold bA;have h':n<s.data.toList.length:=by rw[Array.length_toList];exact h
 rw[List.getD_eq_getElem?_getD,List.getElem?_eq_getElem h']
 rfl
theorem bA_lt (s:ByteArray) (n:Nat):bA s n<256:=UInt8.toNat_lt _

theorem undrew {w w1:World} (h:Below w.drew.heap.size w.drew w1):Below w.heap.size w w1:=⟨h.os,h.tape,h.output,h.size,h.block⟩
theorem uH {w w1:World} {n B:Nat} (h:Below B (w.drewN n) w1):Below B w w1:=⟨h.os,h.tape,h.output,h.size,h.block⟩
theorem below_drewN {B:Nat} {a w:World} (h:Below B a w) (n:Nat):Below B a (w.drewN n):=⟨h.os,h.tape,h.output,h.size,h.block⟩

section
variable {w w':World} {B:Nat} {E:TypeId} {sz n:Nat} {v:Value} {cs:List Value}
theorem own_below {C:Nat} (h:w.ownsRow B E sz v n cs) (hb:Below C w w') (hC: ∀ b,v.ownBlock=some b→b<C):w'.ownsRow B E sz v n cs:=by
 refine⟨h.1,?_⟩
 rcases h.2 with hn|⟨g,cap,cur,rfl,hbg,hg,rest⟩
 ·exact .inl hn
 ·exact .inr ⟨g,cap,cur,rfl,hbg,by rw[hb.block g (hC g rfl)];exact hg,rest⟩
theorem zGz {B':Nat} (h:w.ownsRow B E sz v n cs) (hB:B'≤B):w.ownsRow B' E sz v n cs:=by
 refine⟨h.1,?_⟩
 rcases h.2 with hn|⟨g,cap,cur,rfl,hbg,hg,rest⟩
 ·exact .inl hn
 ·exact .inr ⟨g,cap,cur,rfl,by omega,hg,rest⟩
theorem uM (h:w.ownsRow B E sz v n cs) (hb:Below w.heap.size w w'):w'.ownsRow B E sz v n cs:=own_below h hb fun b hb=>(h.lt b hb).2
end
theorem zQ {p:Prop} (h:p:=by first|(simp;done)|(simp;omega)|omega):p:=h
theorem zP {p:Prop} (h:p:=by first|omega|(simp;done)|(simp;omega)):p:=h
theorem ba {p:Prop} (h:p:=by repeat(first|with_reducible exact Below.refl _ _|with_reducible assumption|with_reducible refine Below.setCell ?_ (by first|omega|(simp;done)|(simp;omega)) _|with_reducible refine Below.alloc ?_ (by first|omega|(simp;done)|(simp;omega)) _|with_reducible refine Below.drew ?_|with_reducible refine below_drewN ?_ _|exact Below.refl _ _|assumption|refine Below.drew ?_|refine below_drewN ?_ _|refine Below.alloc ?_ (by first|omega|(simp;done)|(simp;omega)) _|refine Below.setCell ?_ (by first|omega|(simp;done)|(simp;omega)) _)):p:=h
theorem gE {α:Type _} {l:List α} {i:Nat} (h:i<l.length):l[i]?=some l[i]:=List.getElem?_eq_getElem h
theorem zM {p:Prop} (h:p:=by omega):p:=h
theorem zR {B:Nat} {w:World} :Below B w w:=Below.refl B w
theorem zJ {n:Nat} :n≤n:=Nat.le_refl n
theorem zW {a b c:Nat} (h:a<b) (k:b≤c):a<c:=Nat.lt_of_lt_of_le h k
theorem bz {p:Prop} (h:p:=by repeat(first|with_reducible exact Below.refl _ _|with_reducible refine Below.alloc ?_ (Nat.le_refl _) _|with_reducible refine Below.drew ?_|with_reducible refine below_drewN ?_ _)):p:=h
theorem dz {p:Prop} (h:p:=by repeat(first|exact Dr.refl _|exact⟨_,rfl⟩|refine Dr.drewN ?_ _|refine Dr.drew ?_)):p:=h
theorem pc1 {w W:World} {B b o:Nat} {a0:Value} {r:List Value} (hb:Below B w W) (hl:b<B) (h: ∀ j u,(a0 :: r)[j]?=some u→w.cell? ⟨b,o+j,none⟩=some u):W.cell? ⟨b,o,none⟩=some a0:=(hb.cell hl).trans (h 0 _ rfl)
theorem pc2 {w W:World} {B b o:Nat} {a0 a1:Value} {r:List Value} (hb:Below B w W) (hl:b<B) (h: ∀ j u,(a0 :: a1 :: r)[j]?=some u→w.cell? ⟨b,o+j,none⟩=some u):W.cell? ⟨b,o,none⟩=some a0∧W.cell? ⟨b,o+1,none⟩=some a1:=⟨(hb.cell hl).trans (h 0 _ rfl),(hb.cell hl).trans (h 1 _ rfl)⟩
theorem pc3 {w W:World} {B b o:Nat} {a0 a1 a2:Value} {r:List Value} (hb:Below B w W) (hl:b<B) (h: ∀ j u,(a0 :: a1 :: a2 :: r)[j]?=some u→w.cell? ⟨b,o+j,none⟩=some u):W.cell? ⟨b,o,none⟩=some a0∧W.cell? ⟨b,o+1,none⟩=some a1∧W.cell? ⟨b,o+2,none⟩=some a2:=⟨(hb.cell hl).trans (h 0 _ rfl),(hb.cell hl).trans (h 1 _ rfl),(hb.cell hl).trans (h 2 _ rfl)⟩
theorem pc4 {w W:World} {B b o:Nat} {a0 a1 a2 a3:Value} {r:List Value} (hb:Below B w W) (hl:b<B) (h: ∀ j u,(a0 :: a1 :: a2 :: a3 :: r)[j]?=some u→w.cell? ⟨b,o+j,none⟩=some u):W.cell? ⟨b,o,none⟩=some a0∧W.cell? ⟨b,o+1,none⟩=some a1∧W.cell? ⟨b,o+2,none⟩=some a2∧W.cell? ⟨b,o+3,none⟩=some a3:=⟨(hb.cell hl).trans (h 0 _ rfl),(hb.cell hl).trans (h 1 _ rfl),(hb.cell hl).trans (h 2 _ rfl),(hb.cell hl).trans (h 3 _ rfl)⟩
theorem pc5 {w W:World} {B b o:Nat} {a0 a1 a2 a3 a4:Value} {r:List Value} (hb:Below B w W) (hl:b<B) (h: ∀ j u,(a0 :: a1 :: a2 :: a3 :: a4 :: r)[j]?=some u→w.cell? ⟨b,o+j,none⟩=some u):W.cell? ⟨b,o,none⟩=some a0∧W.cell? ⟨b,o+1,none⟩=some a1∧W.cell? ⟨b,o+2,none⟩=some a2∧W.cell? ⟨b,o+3,none⟩=some a3∧W.cell? ⟨b,o+4,none⟩=some a4:=⟨(hb.cell hl).trans (h 0 _ rfl),(hb.cell hl).trans (h 1 _ rfl),(hb.cell hl).trans (h 2 _ rfl),(hb.cell hl).trans (h 3 _ rfl),(hb.cell hl).trans (h 4 _ rfl)⟩
theorem pc6 {w W:World} {B b o:Nat} {a0 a1 a2 a3 a4 a5:Value} {r:List Value} (hb:Below B w W) (hl:b<B) (h: ∀ j u,(a0 :: a1 :: a2 :: a3 :: a4 :: a5 :: r)[j]?=some u→w.cell? ⟨b,o+j,none⟩=some u):W.cell? ⟨b,o,none⟩=some a0∧W.cell? ⟨b,o+1,none⟩=some a1∧W.cell? ⟨b,o+2,none⟩=some a2∧W.cell? ⟨b,o+3,none⟩=some a3∧W.cell? ⟨b,o+4,none⟩=some a4∧W.cell? ⟨b,o+5,none⟩=some a5:=⟨(hb.cell hl).trans (h 0 _ rfl),(hb.cell hl).trans (h 1 _ rfl),(hb.cell hl).trans (h 2 _ rfl),(hb.cell hl).trans (h 3 _ rfl),(hb.cell hl).trans (h 4 _ rfl),(hb.cell hl).trans (h 5 _ rfl)⟩
theorem oc1 {w W:World} {B b off k:Nat} {a0:Value} {r:List Value} (hb:Below B w W) (hl:b<B) (h: ∀ j u,(a0 :: r)[j]?=some u→w.cell? ⟨b,off+(k * 1+j),none⟩=some u):W.cell? ⟨b,off+k,none⟩=some a0:=(by have q:=(hb.cell hl).trans (h 0 _ rfl);rwa [show off+(k * 1+0)=off+k by omega] at q)
theorem oc2 {w W:World} {B b off k:Nat} {a0 a1:Value} {r:List Value} (hb:Below B w W) (hl:b<B) (h: ∀ j u,(a0 :: a1 :: r)[j]?=some u→w.cell? ⟨b,off+(k * 2+j),none⟩=some u):W.cell? ⟨b,off+k * 2,none⟩=some a0∧W.cell? ⟨b,off+k * 2+1,none⟩=some a1:=⟨(by have q:=(hb.cell hl).trans (h 0 _ rfl);rwa [show off+(k * 2+0)=off+k * 2 by omega] at q),(by have q:=(hb.cell hl).trans (h 1 _ rfl);rwa [show off+(k * 2+1)=off+k * 2+1 by omega] at q)⟩
theorem oc3 {w W:World} {B b off k:Nat} {a0 a1 a2:Value} {r:List Value} (hb:Below B w W) (hl:b<B) (h: ∀ j u,(a0 :: a1 :: a2 :: r)[j]?=some u→w.cell? ⟨b,off+(k * 3+j),none⟩=some u):W.cell? ⟨b,off+k * 3,none⟩=some a0∧W.cell? ⟨b,off+k * 3+1,none⟩=some a1∧W.cell? ⟨b,off+k * 3+2,none⟩=some a2:=⟨(by have q:=(hb.cell hl).trans (h 0 _ rfl);rwa [show off+(k * 3+0)=off+k * 3 by omega] at q),(by have q:=(hb.cell hl).trans (h 1 _ rfl);rwa [show off+(k * 3+1)=off+k * 3+1 by omega] at q),(by have q:=(hb.cell hl).trans (h 2 _ rfl);rwa [show off+(k * 3+2)=off+k * 3+2 by omega] at q)⟩
theorem oc4 {w W:World} {B b off k:Nat} {a0 a1 a2 a3:Value} {r:List Value} (hb:Below B w W) (hl:b<B) (h: ∀ j u,(a0 :: a1 :: a2 :: a3 :: r)[j]?=some u→w.cell? ⟨b,off+(k * 4+j),none⟩=some u):W.cell? ⟨b,off+k * 4,none⟩=some a0∧W.cell? ⟨b,off+k * 4+1,none⟩=some a1∧W.cell? ⟨b,off+k * 4+2,none⟩=some a2∧W.cell? ⟨b,off+k * 4+3,none⟩=some a3:=⟨(by have q:=(hb.cell hl).trans (h 0 _ rfl);rwa [show off+(k * 4+0)=off+k * 4 by omega] at q),(by have q:=(hb.cell hl).trans (h 1 _ rfl);rwa [show off+(k * 4+1)=off+k * 4+1 by omega] at q),(by have q:=(hb.cell hl).trans (h 2 _ rfl);rwa [show off+(k * 4+2)=off+k * 4+2 by omega] at q),(by have q:=(hb.cell hl).trans (h 3 _ rfl);rwa [show off+(k * 4+3)=off+k * 4+3 by omega] at q)⟩
theorem oc5 {w W:World} {B b off k:Nat} {a0 a1 a2 a3 a4:Value} {r:List Value} (hb:Below B w W) (hl:b<B) (h: ∀ j u,(a0 :: a1 :: a2 :: a3 :: a4 :: r)[j]?=some u→w.cell? ⟨b,off+(k * 5+j),none⟩=some u):W.cell? ⟨b,off+k * 5,none⟩=some a0∧W.cell? ⟨b,off+k * 5+1,none⟩=some a1∧W.cell? ⟨b,off+k * 5+2,none⟩=some a2∧W.cell? ⟨b,off+k * 5+3,none⟩=some a3∧W.cell? ⟨b,off+k * 5+4,none⟩=some a4:=⟨(by have q:=(hb.cell hl).trans (h 0 _ rfl);rwa [show off+(k * 5+0)=off+k * 5 by omega] at q),(by have q:=(hb.cell hl).trans (h 1 _ rfl);rwa [show off+(k * 5+1)=off+k * 5+1 by omega] at q),(by have q:=(hb.cell hl).trans (h 2 _ rfl);rwa [show off+(k * 5+2)=off+k * 5+2 by omega] at q),(by have q:=(hb.cell hl).trans (h 3 _ rfl);rwa [show off+(k * 5+3)=off+k * 5+3 by omega] at q),(by have q:=(hb.cell hl).trans (h 4 _ rfl);rwa [show off+(k * 5+4)=off+k * 5+4 by omega] at q)⟩
end
section
open Go.RowKit
def Bk (w:World) (g:Nat) (t:TypeId) (cs:Array Value):Prop:=w.heap[g]?=some (.cells cs t (0,0))
section
variable {w w':World} {g:Nat} {t:TypeId} {cs:Array Value}
theorem Bk.lt (h:Bk w g t cs):g<w.heap.size:=(Array.getElem?_eq_some_iff.1 h).1
theorem Bk.cell (h:Bk w g t cs) (i:Nat):w.cell? ⟨g,i,none⟩=cs[i]?:=by unfold World.cell?;unfold Bk at h;simp[h]
theorem Bk.free (h:Bk w g t cs) (i:Nat):w.frozen? ⟨g,i,none⟩=false:=by unfold World.frozen?;unfold Bk at h;simp[h]
theorem Bk.born (w:World) (t:TypeId) (cs:Array Value):Bk (w.alloc (.cells cs t)) w.heap.size t cs:=heap_alloc_new w _
theorem Bk.drewN (h:Bk w g t cs) (n:Nat):Bk (w.drewN n) g t cs:=h
theorem Bk.alloc (h:Bk w g t cs) (o:Obj):Bk (w.alloc o) g t cs:=(Below.heap_alloc w o g h.lt).trans h
theorem Bk.below {B:Nat} (h:Bk w g t cs) (hb:Below B w w') (hg:g<B):Bk w' g t cs:=(hb.block g hg).trans h
theorem Bk.grown {row:Option Nat} (h:Bk w g t cs) (hb:w.grownBy w' row) (hg:some g≠row):Bk w' g t cs:=(hb.block g h.lt hg).trans h
theorem Bk.far (h:Bk w g t cs) {p:Addr} (hp:g≠p.block) (u:Value):Bk (w.setCell p u) g t cs:=(Below.heap_setCell w p u g hp).trans h
theorem Bk.set_ (h:Bk w g t cs) (i:Nat) (u:Value):Bk (w.setCell ⟨g,i,none⟩ u) g t (cs.setIfInBounds i u):=by
 unfold Bk at *;unfold World.setCell;simp[Array.getElem?_modify,h]
end
theorem OwI.far {E:TypeId} {w:World} {B:Nat} {v:Value} {xs:List Int} (h:OwI E w B v xs) {p:Addr} (hp: ∀ b,v.ownBlock=some b→b≠p.block) (u:Value):OwI E (w.setCell p u) B v xs:=by
 refine⟨h.1,?_⟩
 rcases h.2 with hn|⟨g,cap,cur,rfl,hbg,hg,rest⟩
 ·exact .inl hn
 ·exact .inr ⟨g,cap,cur,rfl,hbg,by rw[Below.heap_setCell w p u g (hp g rfl)];exact hg,rest⟩
theorem yR {w w1:World} {o:Obj} (h:Below (w.alloc o).heap.size (w.alloc o) w1):Below w.heap.size w w1:=(zR.alloc zJ o).trans (h.mono (by simp))
def Gr (g:Nat) (w w':World):Prop:=w.grownBy w' (some g)∧w'.heap.size=w.heap.size
theorem Gr.refl (g:Nat) (w:World):Gr g w w:=⟨World.grownBy.refl _ _,rfl⟩
theorem Gr.trans {g:Nat} {a b c:World} (h:Gr g a b) (k:Gr g b c):Gr g a c:=⟨h.1.trans k.1,k.2.trans h.2⟩
theorem Gr.drewN {g:Nat} {a b:World} (h:Gr g a b) (n:Nat):Gr g a (b.drewN n):=⟨⟨h.1.os,h.1.tape,h.1.output,h.1.size,h.1.block⟩,h.2⟩
theorem Gr.set_ {g:Nat} {a b:World} (h:Gr g a b) (i:Nat) (u:Value):Gr g a (b.setCell ⟨g,i,none⟩ u):=
 ⟨⟨h.1.os,h.1.tape,h.1.output,by simpa[World.setCell] using h.1.size,fun k hk hne=>(Below.heap_setCell b _ u k (fun e=>hne (by rw[e]))).trans (h.1.block k hk hne)⟩,by simpa[World.setCell] using h.2⟩
theorem aK (w:World) (t:TypeId) (cs:Array Value):Sec (Below w.heap.size w (w.alloc (.cells cs t)))∧Sec (Bk (w.alloc (.cells cs t)) w.heap.size t cs):=⟨xN (zR.alloc zJ _),xN (Bk.born w t cs)⟩
end
section
def inB (n lo hi:Int):Bool:=decide (lo≤n∧n≤hi)
theorem wY {n lo hi:Int} :inB n lo hi=true↔lo≤n∧n≤hi:=by simp[inB]
theorem zNy {n lo hi:Int} :inB n lo hi=false↔ ¬ (lo≤n∧n≤hi):=by simp[inB]
def Smp (x:Int):Prop:= -2147483648≤x∧x≤2147483647
instance (x:Int):Decidable (Smp x):=by unfold Smp;infer_instance
def smpB (xs:List Int):Bool:=decide (∀ x ∈ xs,Smp x)
def sigB (xs:List Int):Bool:=decide (xs.length≤4000) && smpB xs
theorem vOz {xs:List Int} :smpB xs=true↔ ∀ x ∈ xs,Smp x:=by simp[smpB]
theorem uSz {xs:List Int} {k:Nat} {x:Int} (hk:xs[k]?=some x) (h:smpB (xs.take k)=true) (hx:Smp x):smpB (xs.take (k+1))=true:=by
 rw[vOz] at *;intro y hy;rw[List.take_add_one,hk] at hy;simp at hy
 rcases hy with hy|rfl
 ·exact h y hy
 ·exact hx
theorem smpB_no {xs:List Int} {k:Nat} {x:Int} (hk:xs[k]?=some x) (hx: ¬ Smp x):smpB xs=false:=by
 rw[Bool.eq_false_iff];intro h;exact hx (vOz.1 h x (List.mem_of_getElem? hk))
def wrp (n:Int):Int:=(n+2147483648) % 4294967296 - 2147483648
theorem zRz (n:Int):Smp (wrp n):=by unfold Smp wrp;omega
theorem xVz {n:Int} (h:Smp n):wrp n=n:=by unfold Smp at h;unfold wrp;omega
theorem vG {α:Type} {xs:List α} {k:Nat} {x:α} (h:xs[k]?=some x):xs.take (k+1)=xs.take k++ [x]:=by rw[List.take_add_one,h];rfl
theorem uK {α:Type} {xs ys:List α} {k:Nat} (hk:k=xs.length) (hl:xs.length=ys.length) (h:xs.take k=ys.take k):xs=ys:=by
 subst hk;rw[List.take_length,hl,List.take_length] at h;exact h
theorem uW {α:Type} {xs ys:List α} {k:Nat} {x:α} (h:xs.take k=ys.take k) (hx:xs[k]?=some x) (hy:ys[k]?=some x):xs.take (k+1)=ys.take (k+1):=by
 rw[vG hx,vG hy,h]
theorem uQz {α:Type} {xs ys:List α} {k:Nat} {x y:α} (hx:xs[k]?=some x) (hy:ys[k]?=some y) (h:x≠y):xs≠ys:=by
 rintro rfl;rw[hx] at hy;exact h (by injection hy)

theorem yQy (n:Int) (m:Nat) (hm:m≤62):bits .and .i64 n ((2 ^ m - 1:Nat):Int)=n % ((2 ^ m:Nat):Int):=by
 have hp:2 ^ m≤2 ^ 62:=Nat.pow_le_pow_right (by omega) hm;have hpos:0<2 ^ m:=Nat.pow_pos (by omega)
 have e2:(BitVec.ofInt 64 ((2 ^ m - 1:Nat):Int)).toNat=2 ^ m - 1:=by
  rw[BitVec.ofInt_natCast,BitVec.toNat_ofNat];exact Nat.mod_eq_of_lt (by omega)
 have e1:((BitVec.ofInt 64 n).toNat:Int)=n % 18446744073709551616:=by
  rw[BitVec.toNat_ofInt];omega
 show IntKind.i64.wrap ((BitVec.ofInt 64 n &&& BitVec.ofInt 64 ((2 ^ m - 1:Nat):Int)).toNat:Int)=_
 rw[BitVec.toNat_and,e2,Nat.and_two_pow_sub_one_eq_mod];have hlt:(BitVec.ofInt 64 n).toNat % 2 ^ m<2 ^ m:=Nat.mod_lt _ hpos
 have e3:(((BitVec.ofInt 64 n).toNat % 2 ^ m:Nat):Int)=n % ((2 ^ m:Nat):Int):=by
  rw[Int.natCast_emod,e1]
  have hd:((2 ^ m:Nat):Int) ∣ 18446744073709551616:=by
   have:(2 ^ m:Nat) ∣ 2 ^ 64:=Nat.pow_dvd_pow 2 (by omega);exact Int.natCast_dvd_natCast.2 this
  exact Int.emod_emod_of_dvd n hd
 rw[IntWalk.i64_in _ (by omega),e3]
theorem and_32 (n:Int):bits .and .i64 n 4294967295=n % 4294967296:=yQy n 32 (by omega)
theorem and_1 (n:Int):bits .and .i64 n 1=n % 2:=yQy n 1 (by omega)
theorem wrp_mod {a b:Int} (h:a % 4294967296=b % 4294967296):wrp a=wrp b:=by unfold wrp;omega
theorem wrp_small (n:Int) (h:n % 4294967296≤2147483647):n % 4294967296=wrp n:=by unfold wrp;omega
theorem wrp_big (n:Int) (h:2147483647<n % 4294967296):n % 4294967296 - 4294967296=wrp n:=by unfold wrp;omega
theorem wrp_sub (a b:Int):wrp (wrp a - wrp b)=wrp (a - b):=by unfold wrp;omega
theorem bits_xor_nat (a b:Nat) (ha:a<9223372036854775808) (hb:b<9223372036854775808):bits .xor .i64 (a:Int) (b:Int)=((a ^^^ b:Nat):Int):=by
 have hx:a ^^^ b<2 ^ 63:=Nat.xor_lt_two_pow (by omega) (by omega);have h1:(BitVec.ofInt 64 (a:Int)).toNat=a:=by rw[BitVec.ofInt_natCast,BitVec.toNat_ofNat];exact Nat.mod_eq_of_lt (by omega)
 have h2:(BitVec.ofInt 64 (b:Int)).toNat=b:=by rw[BitVec.ofInt_natCast,BitVec.toNat_ofNat];exact Nat.mod_eq_of_lt (by omega)
 show IntKind.i64.wrap ((BitVec.ofInt 64 (a:Int) ^^^ BitVec.ofInt 64 (b:Int)).toNat:Int)=_
 rw[BitVec.toNat_xor,h1,h2];exact IntWalk.i64_in _ (by omega)
theorem toList_loop (s:ByteArray): ∀ (n i:Nat) (r:List UInt8),n=s.size - i→ByteArray.toList.loop s i r=r.reverse++s.data.toList.drop i:=by
 intro n
 induction n with
 |zero=>
  intro i r h;unfold ByteArray.toList.loop;rw[if_neg (by omega),List.drop_eq_nil_of_le (by rw[Array.length_toList];show s.size≤i;omega),List.append_nil]
 |succ n ih=>
  intro i r h;unfold ByteArray.toList.loop;have hi:i<s.data.toList.length:=by rw[Array.length_toList];show i<s.size;omega
  rw[if_pos (by omega),ih (i+1) _ (by omega),List.drop_eq_getElem_cons hi]
  have:s.get! i=s.data.toList[i]:=by
   have hd:i<s.data.size:=by simpa using hi
   rw[Array.getElem_toList];exact getElem!_pos s.data i hd
  rw[this];simp
theorem toList_eq (s:ByteArray):s.toList=s.data.toList:=by
 have:=toList_loop s s.size 0 [] (by simp)
 simpa[ByteArray.toList] using this
theorem str_eq {a b:ByteArray} :(a.toList == b.toList)=decide (a=b):=by
 rw[toList_eq,toList_eq,Bool.eq_iff_iff];simp only[beq_iff_eq,decide_eq_true_eq]
 constructor
 ·intro h;apply ByteArray.ext;exact Array.toList_inj.1 h
 ·rintro rfl;rfl
end
section
open Go.RowKit
theorem wJ (n a b:Int) (w:World):Calls Tryz.prog 67 #[.int .i64 n,.int .i64 a,.int .i64 b] w fun e w'=>e= .returned (.bool (inB n a b))∧w=w':=by
 by_cases h:a≤n
 all_goals
  go_enter Tryz.func67,Tryz.ntmps67
  go_wp2;go_ret
  exact⟨by first|(simp[inB,h];done)|(simp[inB];omega),rfl⟩
theorem xX (n a b:Int) (w:World):Calls Tryz.prog 47 #[.int .i64 n,.int .i64 a,.int .i64 b] w fun e w'=>e= .returned (.bool (inB n a b))∧w=w':=by
 by_cases h:a≤n
 all_goals
  go_enter Tryz.func47,Tryz.ntmps47
  go_wp2;go_ret
  exact⟨by first|(simp[inB,h];done)|(simp[inB];omega),rfl⟩
theorem wL (n:Int) (w:World):Calls Tryz.prog 84 #[.int .i64 n] w fun e w'=>e= .returned (.bool (decide (Smp n)))∧w=w':=by
 go_enter Tryz.func84,Tryz.ntmps84
 go_wp2_with (go_at_call 67;refine(wJ _ _ _ _).mono ?_;rintro e w' ⟨rfl,rfl⟩)
 go_ret
 exact⟨rfl,rfl⟩
theorem yMz (n:Int) (w:World):Calls Tryz.prog 95 #[.int .i64 n] w fun e w'=>e= .returned (.bool (decide (Smp n)))∧w=w':=by
 go_enter Tryz.func95,Tryz.ntmps95
 go_wp2_with (go_at_call 47;refine(xX _ _ _ _).mono ?_;rintro e w' ⟨rfl,rfl⟩)
 go_ret
 exact⟨rfl,rfl⟩
theorem c_l03Ok (v:Value) (xs:List Int) (w:World) (hr:RdI w v xs):Calls Tryz.prog 69 #[v] w fun e w'=>e= .returned (.bool (sigB xs))∧w=w':=by
 obtain⟨A,cap,rfl,hl,hc,hx⟩:=hr.open_;have HX:=xN hx;clear hx hr;by_cases h4:xs.length≤4000
 ·go_enter Tryz.func69,Tryz.ntmps69
  go_wp2
  go_loop [3] (fun i=> ∃ k:Nat,k≤xs.length∧i= .int .i64 k∧smpB (xs.take k)=true) (fun i=>xs.length - (intOf i).toNat)
  case atStart=>exact⟨0,Nat.zero_le _,rfl,by simp[smpB]⟩
  case round=>
   obtain⟨k,hk,rfl,hs⟩:=hrel;have HS:=xN hs;clear hs;by_cases hlt:k<xs.length
   ·obtain⟨b,off,rfl,hb,hcell⟩:=HX.o k xs[k] (gE hlt)
    by_cases hsm:Smp xs[k]
    ·have hd:decide (Smp xs[k])=true:=by simpa using hsm
     go_wp2_with (go_at_call 84;refine(wL _ _).mono ?_;rintro e w' ⟨rfl,rfl⟩)
     go_round
     case rel=>exact⟨k+1,by omega,by go_num,uSz (gE hlt) HS.o hsm⟩
     case measure=>simp[intOf];omega
    ·have hd:decide (Smp xs[k])=false:=by simpa using hsm
     go_wp2_with (go_at_call 84;refine(wL _ _).mono ?_;rintro e w' ⟨rfl,rfl⟩)
     go_ret
     exact⟨by simp[sigB,smpB_no (gE hlt) hsm],rfl⟩
   ·go_wp2
    go_ret
    have:k=xs.length:=by omega
    subst this;have:=HS.o;rw[List.take_length] at this;exact⟨by simp[sigB,h4,this],rfl⟩
 ·go_enter Tryz.func69,Tryz.ntmps69
  go_wp2;go_ret
  exact⟨by simp[sigB];omega,rfl⟩
end
section
open Go.RowKit
def Src (w:World) (g:Nat) (cv:Value) (at':Nat):Prop:= ∃ z:Nat,z<2 ^ 64∧Bk w g 88 #[cv,.int .i64 (at':Int),.int .u64 (z:Int)]
def NxR (g:Nat) (cv:Value) (at':Nat) (w:World) (e:Ending) (w':World):Prop:= ∃ x:Nat,e= .returned (.int .i64 (x:Int))∧x≤255∧Src w' g cv (at'+1)∧Gr g w w'
theorem u64_nat (n:Int): ∃ m:Nat,m<2 ^ 64∧IntKind.u64.wrap n=(m:Int):=by
 have h:0≤IntKind.u64.wrap n∧IntKind.u64.wrap n<18446744073709551616:=by
  unfold IntKind.wrap;simp[IntKind.bits,IntKind.signed];omega
 exact⟨(IntKind.u64.wrap n).toNat,by omega,by omega⟩
theorem and_low (q:Int): ∃ x:Nat,x≤255∧wrap64 (bits .and .u64 (IntKind.u64.wrap q / 1099511627776) 255)=(x:Int):=by
 obtain⟨m,hm,e⟩:=u64_nat q;have e2:(m:Int) / 1099511627776=((m / 1099511627776:Nat):Int):=by simp
 have h:=bits_and_u64_nat (m / 1099511627776) 255 zM zM;have hle:(m / 1099511627776) &&& 255≤255:=Nat.and_le_right;refine⟨(m / 1099511627776) &&& 255,hle,?_⟩;rw[e,e2];rw[show bits .and .u64 ((m / 1099511627776:Nat):Int) 255=(((m / 1099511627776) &&& 255:Nat):Int) from h];exact IntWalk.wrap64_in _ zM
theorem src_set {w:World} {g:Nat} {cv u:Value} {at':Nat} {q:Int} (h:Bk w g 88 #[cv,.int .i64 (at':Int),u]):Src (w.setCell ⟨g,2,none⟩ (.int .u64 (IntKind.u64.wrap q))) g cv at':=by
 obtain⟨m,hm,e⟩:=u64_nat q;refine⟨m,hm,?_⟩;rw[e];exact h.set_ 2 _
theorem NxR.mk {g:Nat} {cv:Value} {at':Nat} {w w':World} {n:Int} (h: ∃ x:Nat,x≤255∧n=(x:Int)) (hs:Src w' g cv (at'+1)) (hg:Gr g w w'):NxR g cv at' w (.returned (.int .i64 n)) w':=by
 obtain⟨x,hx,rfl⟩:=h;exact⟨x,rfl,hx,hs,hg⟩
theorem Src.drewN {w:World} {g:Nat} {cv:Value} {at':Nat} (h:Src w g cv at') (n:Nat):Src (w.drewN n) g cv at':=h
theorem c_next (g:Nat) (cv:Value) (bs:List UInt8) (at':Nat) (w:World) (h:Src w g cv at') (hr:RdY w cv bs) (hat:at'≤1073741824) (hbs:bs.length≤1073741824):
  Calls Tryz.prog 41 #[.pointer (some ⟨g,0,none⟩)] w (NxR g cv at' w):=by
 obtain⟨z,hz,hbk⟩:=h;obtain⟨_,A,cap,rfl,hl,hc,hx⟩:=hr;have c0:=hbk.cell 0;have c1:=hbk.cell 1;have c2:=hbk.cell 2;have f0:=hbk.free 0;have f1:=hbk.free 1;have f2:=hbk.free 2;simp at c0 c1 c2;have HBK:=xN hbk;have HZ:=xN hz;clear hbk hz;by_cases hlt:at'<bs.length
 ·obtain⟨b,off,rfl,hb,hcell⟩:=hx zM
  have hce:=hcell at' (.int .u8 (bs[at'].toNat:Int)) (by rw[List.getElem?_map,gE hlt];rfl);have hb8:=UInt8.toNat_lt bs[at'];have a1:(at':Int)<(bs.length:Int):=by omega
  have a2:(at':Int)+1≤(bs.length:Int):=by omega
  generalize bs[at'].toNat=y at *;clear hcell hx
  go_enter Tryz.func41,Tryz.ntmps41
  go_wp2
  go_quiet (fail)
  go_wp2
  go_quiet (fail)
  go_wp2
  go_quiet (fail)
  go_wp2;go_ret
  exact NxR.mk ⟨y,by omega,rfl⟩ ((src_set ((HBK.o.drewN _).set_ 1 _)).drewN _) ((((Gr.refl g w).drewN _).set_ 1 _).set_ 2 _ |>.drewN _)
 ·have a1: ¬ (at':Int)<(bs.length:Int):=by omega
  have a2: ¬ (at':Int)+1≤(bs.length:Int):=by omega
  go_enter Tryz.func41,Tryz.ntmps41
  go_wp2
  go_quiet (fail)
  go_wp2
  go_quiet (fail)
  go_wp2;go_ret
  exact NxR.mk (and_low _) ((src_set ((HBK.o.drewN _).set_ 1 _)).drewN _) ((((Gr.refl g w).drewN _).set_ 1 _).set_ 2 _ |>.drewN _)
theorem RdY.nil {w w':World} {v:Value} {bs:List UInt8} (h:RdY w v bs) (h0:bs.length=0):RdY w' v bs:=by
 obtain⟨h1,A,cap,rfl,h3,h4,h5⟩:=h;exact⟨h1,A,cap,rfl,h3,h4,fun hn=>absurd hn zM⟩
theorem RdY.gro {w w':World} {v:Value} {bs:List UInt8} {g:Nat} (h:RdY w v bs) (hg:w.grownBy w' (some g)) (hv:0<bs.length→ ∀ b,v.ownBlock=some b→b≠g):RdY w' v bs:=by
 rcases Nat.eq_zero_or_pos bs.length with h0|h0
 ·exact h.nil h0
 ·exact Rd.grown h hg fun b e1 e2=>by injection e2 with e2;exact hv h0 b e1 e2
theorem RdY.gr {w w':World} {v:Value} {bs:List UInt8} {g:Nat} (h:RdY w v bs) (hg:Gr g w w') (hv:0<bs.length→ ∀ b,v.ownBlock=some b→b≠g):RdY w' v bs:=h.gro hg.1 hv
theorem Src.alloc {w:World} {g:Nat} {cv:Value} {at':Nat} (h:Src w g cv at') (o:Obj):Src (w.alloc o) g cv at':=by obtain⟨z,hz,hb⟩:=h;exact⟨z,hz,hb.alloc o⟩
def PkR (g:Nat) (cv:Value) (at' n:Nat) (w:World) (e:Ending) (w':World):Prop:= ∃ x at2:Nat,e= .returned (.int .i64 (x:Int))∧x<n∧at2≤at'+2∧Src w' g cv at2∧Gr g w w'
theorem c_pick (g:Nat) (cv:Value) (bs:List UInt8) (at' n:Nat) (w:World) (h:Src w g cv at') (hr:RdY w cv bs) (hat:at'≤1073741000) (hbs:bs.length≤1073741824) (hg:0<bs.length→ ∀ b,cv.ownBlock=some b→b≠g) (hn:1≤n∧n≤60000):
  Calls Tryz.prog 18 #[.pointer (some ⟨g,0,none⟩),.int .i64 (n:Int)] w (PkR g cv at' n w):=by
 have H:=xN h;have HR:=xN hr;clear h hr;by_cases h1:n≤1
 ·have t1:(n:Int)≤1:=by omega
  go_enter Tryz.func18,Tryz.ntmps18
  go_wp2;go_ret
  exact⟨0,at',rfl,by omega,by omega,H.o,Gr.refl _ _⟩
 ·have t1: ¬ (n:Int)≤1:=by omega
  by_cases h2:n≤200
  ·have t2: ¬ (200:Int)<(n:Int):=by omega
   go_enter Tryz.func18,Tryz.ntmps18
   go_wp2_with fail
   refine(c_next g cv bs at' _ H.o HR.o zM hbs).mono ?_;rintro e w1 ⟨x,rfl,hx,hs1,hg1⟩;have HS1:=xN hs1;have HG1:=xN hg1;clear hs1 hg1;have hm:=Nat.mod_lt x (show 0<n by omega);have em:(x:Int) % (n:Int)=((x % n:Nat):Int):=by simp
   have EM:=xN em;clear em;go_wp2;go_ret
   exact⟨x % n,at'+1,vN EM.o,hm,by omega,HS1.o,HG1.o⟩
  ·have t2:(200:Int)<(n:Int):=by omega
   go_enter Tryz.func18,Tryz.ntmps18
   go_wp2_with fail
   refine(c_next g cv bs at' _ H.o HR.o zM hbs).mono ?_;rintro e w1 ⟨x,rfl,hx,hs1,hg1⟩;have HS1:=xN hs1;have HG1:=xN hg1;clear hs1 hg1;go_wp2_with fail
   refine(c_next g cv bs (at'+1) _ HS1.o (HR.o.gr HG1.o hg) zM hbs).mono ?_;rintro e w2 ⟨x2,rfl,hx2,hs2,hg2⟩;have HS2:=xN hs2;have HG2:=xN (HG1.o.trans hg2);clear hs2 hg2;obtain⟨s,hs⟩: ∃ s,x * 256+x2=s:=⟨_,rfl⟩;have es:(x:Int) * 256+(x2:Int)=(s:Int):=by omega
   have hm:=Nat.mod_lt s (show 0<n by omega);have em:(s:Int) % (n:Int)=((s % n:Nat):Int):=by simp
   have hsb:s≤70000:=by omega
   have EM:=xN em;clear em;clear hs;go_wp2;go_ret
   exact⟨s % n,at'+2,vN EM.o,hm,by omega,HS2.o,HG2.o⟩
theorem RdY.lt {w:World} {v:Value} {bs:List UInt8} (h:RdY w v bs) (h0:0<bs.length): ∀ b,v.ownBlock=some b→b<w.heap.size:=by
 obtain⟨_,A,cap,rfl,_,_,h5⟩:=h;obtain⟨b,off,rfl,hb,_⟩:=h5 h0;intro b' e;have e':b=b':=by simpa[Value.ownBlock] using e
 omega
theorem c_l00From (A:Option Addr) (l cap:Nat) (w:World):Calls Tryz.prog 15 #[.slice A l cap] w fun e w'=>e= .returned (.pointer (some ⟨w.heap.size,0,none⟩))∧w'=w.alloc (.cells #[.slice A l cap,.int .i64 0,.int .u64 0] 88):=by
 go_enter Tryz.func15,Tryz.ntmps15
 go_wp2;go_ret
 exact⟨rfl,rfl⟩
theorem rdY_of_row {w:World} {a:Option Addr} {len cap:Nat} {zs:List Int} (h:(a=none∧len=0∧cap=0∧zs= [])∨
  ∃ x,a=some x∧len≤cap∧cap≤maxLen∧zs.length=cap∧(∀ i,i<zs.length→w.cell? (x.add i)=some (.int .u8 (zs.getD i 0)))∧ ∀ n ∈ zs,(Lit.int .u8 n).wf=true):
  RdY w (.slice a len cap) ((zs.take len).map fun n=>UInt8.ofNat n.toNat):=by
 rcases h with ⟨rfl,rfl,rfl,rfl⟩|⟨x,rfl,hl,hc,hz,hcell,hwf⟩
 ·exact Rd.nil_ w 1
 ·have hlen:((zs.take len).map fun n=>UInt8.ofNat n.toNat).length=len:=by rw[List.length_map,List.length_take];omega
  refine⟨by simp,some x,cap,by rw[hlen],by omega,by unfold maxLen at hc;omega,fun hn=>?_⟩;have h0:=hcell 0 zM
  have hs:x.spot=none:=by
   have:(x.add 0)=x:=by simp[Addr.add]
   rw[this] at h0;unfold World.cell? at h0
   split at h0
   ·split at h0
    ·cases h0
    ·rename_i h';simpa using h'
   ·cases h0
  obtain⟨b,off,sp⟩:=x;simp only at hs;subst hs;refine⟨b,off,rfl,World.block_lt_of_cell? w _ (by simpa[Addr.add] using h0),fun j u hu=>?_⟩;have hj:j<len:=by have:=(List.getElem?_eq_some_iff.1 hu).1;simp at this;omega
  have:=hcell j zM;rw[show (⟨b,off+j,none⟩:Addr)=(⟨b,off,none⟩:Addr).add j by unfold Addr.add;split<;>simp_all,this];rw[List.getElem?_map,List.getElem?_map,List.getElem?_take] at hu;rw[if_pos hj,gE zM] at hu;injection hu with hu;rw[←hu,List.getD_eq_getElem?_getD,gE zM];have hw:=hwf zs[j] (List.getElem_mem _);have hw2:0≤zs[j]∧zs[j]≤255:=by simpa[Lit.wf,IntKind.min,IntKind.max,IntKind.signed,IntKind.bits] using hw
  show some (Value.int .u8 zs[j])=some (Value.int .u8 ((UInt8.ofNat zs[j].toNat).toNat:Int))
  have e:((UInt8.ofNat zs[j].toNat).toNat:Int)=zs[j]:=by simp;omega
  rw[e]
end
section
open Go.RowKit
theorem vPz:(Tryz.prog.info? 2).map (fun i=>(i.zero,i.size,i.bytes))=some (some (.int .i64 0),1,8):=by kernel_rfl
theorem yGz {w:World} {ops:Array Oper} {rest:List Oper} {o:Oper} {a:Act} {Q:Exit→Act→World→Prop} {n:Int} (hgd:o.guard=none) (s x:Operand)
  (ho:o.op= .call { callee:= .builtin .append,args:= #[s,x],argTypes:= #[26,26] }) {B:Nat} {v:Value} {xs:List Int} (hs:a.eval s=v) (hown:OwI 2 w B v xs)
  (hx:a.eval x= .slice (some ⟨w.heap.size,0,none⟩) 1 1) (hl:xs.length+1≤17592186044416) (hB:B≤w.heap.size)
  (h: ∀ v' w',OwI 2 w' B v' (xs++ [n])→w.grownBy w' v.ownBlock→(∀ k,v'.ownBlock=some k→v.ownBlock=some k∨w.heap.size≤k)→wpList Tryz.prog ops Q rest (a.put o.dst v') w'):
  wpList Tryz.prog ops Q (o :: rest) a (w.alloc (.cells #[.int .i64 n] 2)):=
 uAz hgd s x _ ho B _ _ 1 8 Tryz.underlying26 vPz rfl zM v xs.length _ hs hown hx rfl (by simp[Value.oneCell']) zM zM hB
  fun v' w' h1 h2 h3=>h v' w' (by unfold OwI;simpa using h1) h2 h3
theorem appm_i64 {w:World} {ops:Array Oper} {rest:List Oper} {o:Oper} {a:Act} {Q:Exit→Act→World→Prop} (hgd:o.guard=none) (s x:Operand)
  (ho:o.op= .call { callee:= .builtin .append,args:= #[s,x],argTypes:= #[26,26] }) {B:Nat} {v:Value} {xs:List Int} (hs:a.eval s=v) (hown:OwI 2 w B v xs)
  {y:Value} {ys:List Int} (hx:a.eval x=y) (hr:RdI w y ys) (hl:xs.length+ys.length≤17592186044416) (hB:B≤w.heap.size)
  (h: ∀ v' w',OwI 2 w' B v' (xs++ys)→w.grownBy w' v.ownBlock→(∀ k,v'.ownBlock=some k→v.ownBlock=some k∨w.heap.size≤k)→wpList Tryz.prog ops Q rest (a.put o.dst v') w'):
  wpList Tryz.prog ops Q (o :: rest) a w:=
 yFz hgd s x _ ho B _ _ 1 8 Tryz.underlying26 vPz rfl zM v xs.length _ hs hown y ys.length _ hx hr (ints_oneCell _ _) zM zM hB
  fun v' w' h1 h2 h3=>h v' w' (by unfold OwI;simpa using h1) h2 h3
theorem vP (w:World):OwI 2 (w.alloc (.cells #[] 2)) w.heap.size (.slice (some ⟨w.heap.size,0,none⟩) 0 0) []:=World.ownsRow_made w #[] 0 zJ (by decide) rfl
theorem uY (v:Value) (xs:List Int) (w:World) (hr:RdI w v xs):Calls Tryz.prog 148 #[v] w fun e w'=>e= .returned (.bool (smpB xs))∧w=w':=by
 obtain⟨A,cap,rfl,hl,hc,hx⟩:=hr.open_;have HX:=xN hx;clear hx hr
 go_enter Tryz.func148,Tryz.ntmps148
 go_wp2
 go_loop [7] (fun i=> ∃ k:Nat,k≤xs.length∧i= .int .i64 k∧smpB (xs.take k)=true) (fun i=>xs.length - (intOf i).toNat)
 case atStart=>exact⟨0,Nat.zero_le _,rfl,by simp[smpB]⟩
 case round=>
  obtain⟨k,hk,rfl,hs⟩:=hrel;have HS:=xN hs;clear hs;by_cases hlt:k<xs.length
  ·obtain⟨b,off,rfl,hb,hcell⟩:=HX.o k xs[k] (gE hlt)
   by_cases hsm:Smp xs[k]
   ·have hd:decide (Smp xs[k])=true:=by simpa using hsm
    go_wp2_with (go_at_call 95;refine(yMz _ _).mono ?_;rintro e w' ⟨rfl,rfl⟩)
    go_round
    case rel=>exact⟨k+1,by omega,by go_num,uSz (gE hlt) HS.o hsm⟩
    case measure=>simp[intOf];omega
   ·have hd:decide (Smp xs[k])=false:=by simpa using hsm
    go_wp2_with (go_at_call 95;refine(yMz _ _).mono ?_;rintro e w' ⟨rfl,rfl⟩)
    go_ret
    exact⟨by simp[smpB_no (gE hlt) hsm],rfl⟩
  ·go_wp2
   go_ret
   have:k=xs.length:=by omega
   subst this;have:=HS.o;rw[List.take_length] at this;exact⟨by simp[this],rfl⟩
theorem c_isSignal (v:Value) (xs:List Int) (w:World) (hr:RdI w v xs):Calls Tryz.prog 122 #[v] w fun e w'=>e= .returned (.bool (sigB xs))∧w=w':=by
 obtain⟨A,cap,rfl,hl,hc,hx⟩:=hr.open_;have HX:=xN hx;clear hx;have HR:=xN hr;clear hr;by_cases h4:xs.length≤4000
 all_goals
  go_enter Tryz.func122,Tryz.ntmps122
  go_wp2_with (go_at_call 148;refine(uY _ _ _ HR.o).mono ?_;rintro e w' ⟨rfl,rfl⟩)
  go_ret
  first|exact⟨by simp[sigB,h4],rfl⟩|exact⟨by simp[sigB];omega,rfl⟩
end
section
open Go.RowKit
end
section
open Go.RowKit
theorem yHz (n:Int) (w:World):Calls Tryz.prog 82 #[.int .i64 n] w fun e w'=>e= .returned (.int .i64 (wrp n))∧w=w':=by
 have ha:=and_32 n;by_cases h:2147483647<n % 4294967296
 ·have HE:=xN (wrp_big n h)
  go_enter Tryz.func82,Tryz.ntmps82
  go_wp2;go_ret
  exact⟨vN HE.o,rfl⟩
 ·have HE:=xN (wrp_small n zM)
  go_enter Tryz.func82,Tryz.ntmps82
  go_wp2;go_ret
  exact⟨vN HE.o,rfl⟩
theorem c_l01Sub (a b:Int) (w:World):Calls Tryz.prog 176 #[.int .i64 a,.int .i64 b] w fun e w'=>e= .returned (.int .i64 (wrp (a - b)))∧w=w':=by
 have h1:=zRz a;have h2:=zRz b;unfold Smp at h1 h2
 go_enter Tryz.func176,Tryz.ntmps176
 go_wp2_with (go_at_call 82;refine(yHz _ _).mono ?_;rintro e w' ⟨rfl,rfl⟩)
 go_ret
 exact⟨vN (wrp_sub a b),rfl⟩
theorem vQz (v:Value) (xs:List Int) (w:World) (hr:RdI w v xs) (hn:xs.length≤1048576):Calls Tryz.prog 39 #[v] w fun e w'=> ∃ v',e= .returned v'∧OwI 2 w' w.heap.size v' xs∧Below w.heap.size w w':=by
 have HR:=xN hr;clear hr
 go_enter Tryz.func39,Tryz.ntmps39
 go_wp2_with (at_builtin;refine appm_i64 rfl _ _ rfl rfl (vP w) rfl (Rd.alloc HR.o _) (by simp;omega) (by simp) ?_;intro v1 w1 ho hg hv)
 go_ret
 exact⟨_,rfl,by simpa using ho,zOz (zR.alloc zJ _) (vP w) hg zJ (by simp)⟩
theorem c_clone (v:Value) (xs:List Int) (w:World) (hr:RdI w v xs) (hn:xs.length≤1048576):Calls Tryz.prog 57 #[v] w fun e w'=> ∃ v',e= .returned v'∧OwI 2 w' w.heap.size v' xs∧Below w.heap.size w w':=by
 have HR:=xN hr;clear hr
 go_enter Tryz.func57,Tryz.ntmps57
 go_wp2_with (at_builtin;refine appm_i64 rfl _ _ rfl rfl (vP w) rfl (Rd.alloc HR.o _) (by simp;omega) (by simp) ?_;intro v1 w1 ho hg hv)
 go_ret
 exact⟨_,rfl,by simpa using ho,zOz (zR.alloc zJ _) (vP w) hg zJ (by simp)⟩
end
section
section
open Go.RowKit
def AmR (g:Nat) (cv:Value) (at' c:Nat) (p:Int→Prop) (w:World) (e:Ending) (w':World):Prop:= ∃ (x:Int) (at2:Nat),e= .returned (.int .i64 x)∧p x∧at2≤at'+c∧Src w' g cv at2∧w.grownBy w' (some g)
theorem c_among (g:Nat) (cv v:Value) (xs:List Int) (bs:List UInt8) (at':Nat) (w:World) (h:Src w g cv at') (hr:RdY w cv bs) (hv:RdI w v xs) (hxl:1≤xs.length∧xs.length≤60000) (hat:at'≤1073741000) (hbs:bs.length≤1073741824) (hg:0<bs.length→ ∀ b,cv.ownBlock=some b→b≠g) (hvg: ∀ b,v.ownBlock=some b→b≠g):
  Calls Tryz.prog 36 #[.pointer (some ⟨g,0,none⟩),v] w (AmR g cv at' 2 (fun x=>x ∈ xs) w):=by
 have H:=xN h;have HR:=xN hr;have HV:=xN hv;obtain⟨A,cap,rfl,hl,hc,_⟩:=hv.open_;clear h hr hv
 go_enter Tryz.func36,Tryz.ntmps36
 go_wp2_with fail
 refine(c_pick g cv bs at' xs.length _ H.o HR.o hat hbs hg hxl).mono ?_;rintro e w1 ⟨x,at2,rfl,hx,ha2,hs1,hg1⟩;have hv1:=HV.o.grown hg1.1 (fun b e1 e2=>by injection e2 with e2;exact hvg b e1 e2);obtain⟨A',cap',he,_,_,hx1⟩:=hv1.open_;injection he with e1 _ e3;subst e1 e3;obtain⟨b,off,rfl,_,hcell⟩:=hx1 x xs[x] (gE hx);have HS1:=xN hs1;have HG1:=xN hg1;have HM:=xN (List.getElem_mem hx);clear hs1 hg1 hx1 hv1;generalize xs[x]=y at *;go_wp2;go_ret
 exact⟨y,at2,rfl,HM.o,by omega,HS1.o,HG1.o.1⟩
theorem c_l01Draw (g:Nat) (cv:Value) (bs:List UInt8) (at':Nat) (w:World) (h:Src w g cv at') (hr:RdY w cv bs) (hat:at'≤1073740000) (hbs:bs.length≤1073741824) (hg:0<bs.length→ ∀ b,cv.ownBlock=some b→b≠g):
  Calls Tryz.prog 42 #[.pointer (some ⟨g,0,none⟩)] w (AmR g cv at' 10 Smp w):=by
 have H:=xN h;have HR:=xN hr;have hgl:g<w.heap.size:=by obtain⟨z,_,hb⟩:=h;exact hb.lt
 clear h hr
 go_enter Tryz.func42,Tryz.ntmps42
 go_wp2_with fail
 refine(c_pick g cv bs at' 8 _ H.o HR.o zM hbs hg zM).mono ?_;rintro e w1 ⟨x,at2,rfl,hx,ha2,hs1,hg1⟩;have HS1:=xN hs1;have HG1:=xN hg1;have HR1:=xN (HR.o.gr hg1 hg);have HSZ:=xN hg1.2;clear hs1 hg1
 rcases(show x=0∨x=1∨x=2∨3≤x by omega) with rfl|rfl|rfl|h3
 ·go_wp2_with fail
  have hal:=World.grownBy_alloc w1 (.cells #[.int .i64 (-2147483648),.int .i64 2147483647,.int .i64 (-2147483647),.int .i64 65536,.int .i64 (-65536),.int .i64 1073741824] 2) (some g)
  have how:OwI 2 (w1.alloc (.cells #[.int .i64 (-2147483648),.int .i64 2147483647,.int .i64 (-2147483647),.int .i64 65536,.int .i64 (-65536),.int .i64 1073741824] 2)) w1.heap.size (.slice (some ⟨w1.heap.size,0,none⟩) 6 6) [-2147483648,2147483647,-2147483647,65536,-65536,1073741824]:=
   World.ownsRow_lit (base:=w1.heap.size) (e:=2) (size:=1) w1 #[.int .i64 (-2147483648),.int .i64 2147483647,.int .i64 (-2147483647),.int .i64 65536,.int .i64 (-65536),.int .i64 1073741824] 6 zJ (by decide) rfl
  refine(c_among g cv _ _ bs at2 _ (HS1.o.alloc _) (Rd.alloc HR1.o _) how.rd (by decide) zM hbs hg (fun b e=>by injection e with e;have:=HSZ.o;simp at e;omega)).mono ?_;rintro e w2 ⟨y,at3,rfl,hy,ha3,hs2,hg2⟩;have HS2:=xN hs2;have HG2:=xN (HG1.o.1.trans (hal.trans hg2));clear hs2 hg2 hal how;have hys:Smp y:=by simp at hy;unfold Smp;omega
  clear hy;go_wp2;go_ret
  exact⟨y,at3,rfl,hys,by omega,HS2.o,HG2.o⟩
 ·go_wp2_with fail
  refine(c_next g cv bs at2 _ HS1.o HR1.o zM hbs).mono ?_;rintro e w2 ⟨y,rfl,hy,hs2,hg2⟩;have HS2:=xN hs2;have HG2:=xN (HG1.o.trans hg2);have HR2:=xN (HR1.o.gr hg2 hg);clear hs2 hg2;go_wp2
  go_loopw [3,4] (fun nn kk wr=> ∃ (k z:Nat),k≤3∧kk= .int .i64 k∧nn= .int .i64 z∧z<256 ^ (k+1)∧Src wr g cv (at2+1+k)∧RdY wr cv bs∧Gr g w wr) (fun _ kk _=>3 - (intOf kk).toNat)
  case atStart=>exact⟨0,y,by omega,rfl,rfl,by omega,HS2.o,HR2.o,HG2.o⟩
  case round=>
   obtain⟨k,z,hk,rfl,rfl,hz,hs3,hr3,hg3⟩:=hrel;have HS3:=xN hs3;have HR3:=xN hr3;have HG3:=xN hg3;clear hs3 hr3 hg3;have hP:256 ^ (k+1)≤256 ^ 4:=Nat.pow_le_pow_right zM zM;have hP2:256 ^ (k+1+1)=256 ^ (k+1) * 256:=Nat.pow_succ _ _;by_cases hlt:k<3
   ·have HZ:=xN (show ∀ y,y≤255→256 * z+y<256 ^ (k+1+1) from fun y hy=>by rw[hP2];generalize 256 ^ (k+1)=P at *;omega)
    have hzb:z≤4294967296:=by omega
    clear hP hP2 hz;go_wp2_with fail
    refine(c_next g cv bs (at2+1+k) _ HS3.o HR3.o zM hbs).mono ?_;rintro e w4 ⟨y2,rfl,hy2,hs4,hg4⟩;have HS4:=xN hs4;have HG4:=xN (HG3.o.trans hg4);have HR4:=xN (HR3.o.gr hg4 hg);clear hs4 hg4;go_wp2
    go_roundw
    case rel=>exact⟨k+1,256 * z+y2,by omega,by go_num,by go_num,HZ.o _ hy2,HS4.o,HR4.o,HG4.o⟩
    case measure=>first|(simp[intOf];done)|(simp[intOf];omega)
   ·have hzb:z≤4294967296:=by omega
    clear hP hP2 hz;obtain rfl:k=3:=by omega
    go_wp2_with fail
    refine(yHz _ _).mono ?_;rintro e w4 ⟨rfl,rfl⟩;go_wp2;go_ret
    exact⟨_,at2+1+3,rfl,zRz _,by omega,HS3.o,HG3.o.1⟩
 ·go_wp2
  go_ret
  exact⟨0,at2,rfl,by unfold Smp;omega,by omega,HS1.o,HG1.o.1⟩
 ·have t0:((x:Int) == 0)=false:=by simp;omega
  have t1:((x:Int) == 1)=false:=by simp;omega
  have t2:((x:Int) == 2)=false:=by simp;omega
  go_wp2_with fail
  refine(c_pick g cv bs at2 41 _ HS1.o HR1.o zM hbs hg zM).mono ?_;rintro e w2 ⟨y,at3,rfl,hy,ha3,hs2,hg2⟩;have HS2:=xN hs2;have HG2:=xN (HG1.o.trans hg2);clear hs2 hg2;go_wp2;go_ret
  exact⟨(y:Int) - 20,at3,rfl,by unfold Smp;omega,by omega,HS2.o,HG2.o.1⟩
end
end
end Go.Proofs.YtdcofkabaigjpaaGreat
