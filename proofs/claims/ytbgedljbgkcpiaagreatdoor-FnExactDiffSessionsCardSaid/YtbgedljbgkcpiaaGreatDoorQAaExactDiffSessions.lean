/- Words for memory: a slice that reads as a list, a slice of the call's own, kept over what other calls do. No program is named here. Words for memory: a block known whole; a world that differs in one block. Plain functions on numbers and lists: what the small functions compute. No program is named here. Plain functions on texts: the parts of a text between bytes, its lines, changes. No program is named here. Words for memory: a table of numbers, row by row in blocks of their own; the lengths of common subsequences. No program is named here. -/
import Derived.WalkKit
import Derived.WalkSpells
import Derived.WalkLawsBesides
import Derived.Deep.AppendLies
import Derived.Maps.AppendAt
import Derived.Deep.Draws
import Derived.Deep.QuietTactic
import Derived.BigQuiet
set_option linter.unusedVariables false
set_option linter.unusedSimpArgs false

section
namespace Go.Proofs.YtbgedljbgkcpiaaGreatDoor
open Go.RowKit

/-- Only draws lie between the two worlds. -/
def Dr (w w':World):Prop:= ∃ n,w'=w.drewN n
theorem Dr.refl (w:World):Dr w w:=⟨0,rfl⟩
theorem Dr.trans {a b c:World} (h:Dr a b) (k:Dr b c):Dr a c:=by
 obtain⟨n,rfl⟩:=h
 obtain⟨m,rfl⟩:=k
 exact⟨n+m,World.drewN_drewN _ _ _⟩
theorem Dr.drew {a b:World} (h:Dr a b):Dr a b.drew:=h.trans ⟨1,rfl⟩
theorem Dr.drewN {a b:World} (h:Dr a b) (n:Nat):Dr a (b.drewN n):=h.trans ⟨n,rfl⟩
theorem Dr.below {a b c:World} {B:Nat} (h:Below B a b) (k:Dr b c):Below B a c:=by
 obtain⟨n,rfl⟩:=k
 exact⟨h.os,h.tape,h.output,h.size,h.block⟩
theorem Dr.to_below {a b:World} (h:Dr a b) (B:Nat):Below B a b:=Dr.below (Below.refl _ _) h
theorem ret_int {k:IntKind} {a b:Int} (h:a=b):Ending.returned (.int k a)= .returned (.int k b):=by rw[h]
theorem yG {a b:Bool} (h:a=b):Ending.returned (.bool a)= .returned (.bool b):=by rw[h]
theorem ret_str {a b:ByteArray} (h:a=b):Ending.returned (.string a)= .returned (.string b):=by rw[h]
/-- A fact kept from the walk: no tactic looks into it. -/
structure Sec (p:Prop):Prop where
 out:p
theorem hide {p:Prop} (h:p):Sec p:=⟨h⟩
/-- The slice value v holds n elements of size cells each; its cells are cs. -/
def Rd (w:World) (v:Value) (size n:Nat) (cs:List Value):Prop:=
 cs.length=n * size∧ ∃ A cap,v= .slice A n cap∧n≤cap∧cap≤9223372036854775807∧
  (0<n→ ∃ b off,A=some ⟨b,off,none⟩∧b<w.heap.size∧ ∀ j u,cs[j]?=some u→w.cell? ⟨b,off+j,none⟩=some u)

section
variable {w w':World} {v:Value} {size n:Nat} {cs:List Value}
theorem Rd.keep (h:Rd w v size n cs) (hs:w.heap.size≤w'.heap.size) (hk: ∀ b,v.ownBlock=some b→b<w.heap.size→w'.heap[b]?=w.heap[b]?):Rd w' v size n cs:=by
 obtain⟨h1,A,cap,rfl,h3,h4,h5⟩:=h
 refine⟨h1,A,cap,rfl,h3,h4,fun hn=>?_⟩
 obtain⟨b,off,rfl,hb,hc⟩:=h5 hn
 exact⟨b,off,rfl,by omega,fun j u hu=>(World.cell?_of_block (hk b rfl hb)).trans (hc j u hu)⟩
theorem Rd.below (h:Rd w v size n cs) (hb:Below w.heap.size w w'):Rd w' v size n cs:=h.keep hb.size fun b _ hlt=>hb.block b hlt
theorem Rd.drewN (h:Rd w v size n cs) (k:Nat):Rd (w.drewN k) v size n cs:=h
theorem Rd.nil_ (w:World) (size:Nat):Rd w (.slice none 0 0) size 0 []:=⟨by simp,none,0,rfl,Nat.le_refl _,by omega,fun h=>absurd h (by omega)⟩
theorem Rd.of_own {base:Nat} {e:TypeId} (h:w.ownsRow base e size v n cs):Rd w v size n cs:=by
 refine⟨h.1,?_⟩
 rcases h.2 with ⟨rfl,rfl⟩|⟨g,cap,cur,rfl,hb,hg,hn,hm,hs,ht⟩
 ·exact⟨none,0,rfl,Nat.le_refl _,by omega,fun h=>absurd h (by omega)⟩
 ·refine⟨some ⟨g,0,none⟩,cap,rfl,hn,by unfold maxLen at hm;omega,fun hpos=>⟨g,0,rfl,(Array.getElem?_eq_some_iff.1 hg).1,fun j u hu=>?_⟩⟩
  have:=h.cells (g:=g) rfl j u hu
  rw[show (⟨g,0+j,none⟩:Addr)=(⟨g,0,none⟩:Addr).add j by unfold Addr.add;split<;>simp_all]
  exact this
end

/-- A slice of int64 that reads as xs. -/
def RdI (w:World) (v:Value) (xs:List Int):Prop:=Rd w v 1 xs.length (xs.map (Value.int .i64))
/-- A slice of elements of type E, one cell each, of the call's own: from block B on. -/
def OwI (E:TypeId) (w:World) (B:Nat) (v:Value) (xs:List Int):Prop:=w.ownsRow B E 1 v xs.length (xs.map (Value.int .i64))

section
variable {w w':World} {v:Value} {xs:List Int} {E:TypeId} {B:Nat}
theorem OwI.rd (h:OwI E w B v xs):RdI w v xs:=Rd.of_own h
theorem OwI.lt (h:OwI E w B v xs): ∀ k,v.ownBlock=some k→B≤k∧k<w.heap.size:=World.ownsRow.lt h
theorem RdI.below (h:RdI w v xs) (hb:Below w.heap.size w w'):RdI w' v xs:=Rd.below h hb
theorem RdI.open_ (h:RdI w v xs): ∃ A cap,v= .slice A xs.length cap∧xs.length≤cap∧cap≤9223372036854775807∧
  (∀ k x,xs[k]?=some x→ ∃ b off,A=some ⟨b,off,none⟩∧b<w.heap.size∧w.cell? ⟨b,off+k,none⟩=some (.int .i64 x)):=by
 obtain⟨_,A,cap,rfl,h3,h4,h5⟩:=h
 refine⟨A,cap,rfl,h3,h4,fun k x hk=>?_⟩
 obtain⟨b,off,rfl,hb,hc⟩:=h5 (by have:=(List.getElem?_eq_some_iff.1 hk).1;omega)
 exact⟨b,off,rfl,hb,hc k _ (by rw[List.getElem?_map,hk];rfl)⟩
theorem OwI.below {C:Nat} (h:OwI E w B v xs) (hb:Below C w w') (hC: ∀ b,v.ownBlock=some b→b<C):OwI E w' B v xs:=by
 refine⟨h.1,?_⟩
 rcases h.2 with hn|⟨g,cap,cur,rfl,hbg,hg,rest⟩
 ·exact .inl hn
 ·exact .inr ⟨g,cap,cur,rfl,hbg,by rw[hb.block g (hC g rfl)];exact hg,rest⟩
theorem OwI.more {B':Nat} (h:OwI E w B v xs) (hB:B'≤B):OwI E w B' v xs:=by
 refine⟨h.1,?_⟩
 rcases h.2 with hn|⟨g,cap,cur,rfl,hbg,hg,rest⟩
 ·exact .inl hn
 ·exact .inr ⟨g,cap,cur,rfl,by omega,hg,rest⟩
end

section
variable {P:Program}
/-- append of one element, which the call has just laid in a block of its own. -/
theorem app_one {w:World} {ops:Array Oper} {rest:List Oper} {o:Oper} {a:Act} {Q:Exit→Act→World→Prop} {news:Array Value} (hgd:o.guard=none) (s x:Operand) (t:TypeId)
  (ho:o.op= .call { callee:= .builtin .append,args:= #[s,x],argTypes:= #[t,t] })
  (base:Nat) (e:TypeId) (z:Value) (size bytes:Nat) (ht:P.underlying t=some (.slice e)) (hinfo:(P.info? e).map (fun i=>(i.zero,i.size,i.bytes))=some (some z,size,bytes))
  (hzs:z.cells.size=size) (hsz:0<size)
  (v:Value) (n:Nat) (xs:List Value) (hs:a.eval s=v) (hown:w.ownsRow base e size v n xs)
  (hx:a.eval x= .slice (some ⟨w.heap.size,0,none⟩) 1 1) (hl:news.size=size) (h1: ∀ u ∈ news.toList,u.oneCell'=true)
  (hbytes:(n+1) * bytes≤140737488355328) (h63:n+1≤9223372036854775807) (hbase:base≤w.heap.size)
  (h: ∀ v' w',w'.ownsRow base e size v' (n+1) (xs++news.toList)→w.grownBy w' v.ownBlock→(∀ k,v'.ownBlock=some k→v.ownBlock=some k∨w.heap.size≤k)→wpList P ops Q rest (a.put o.dst v') w'):
  wpList P ops Q (o :: rest) a (w.alloc (.cells news e)):=by
 obtain⟨i0,hi,hz0,hz1,hz2⟩:=info_parts hinfo
 refine wpList_append_own_at _ hgd s x t ho base e i0 z size bytes ht hi hz0 hz1 hz2 hzs hsz v n xs hs (hown.alloc _) ⟨w.heap.size,0,none⟩ 1 1 news.toList hx (by simp[hl]) ?_ h1 (by unfold maxLen;omega) hbytes (by simp;omega) ?_
 ·exact World.news_of_block (heap_alloc_new w _)
 ·intro v' w' h2 h3 _ h5
  refine h v' w' h2 ((World.grownBy_alloc w _ _).trans h3) fun k hk=>?_
  rcases h5 with h5|h5
  ·exact .inl (h5 ▸ hk)
  ·rw[h5] at hk;simp at hk;exact .inr (by omega)
/-- append of all elements of a slice that reads. -/
theorem app_many {w:World} {ops:Array Oper} {rest:List Oper} {o:Oper} {a:Act} {Q:Exit→Act→World→Prop} (hgd:o.guard=none) (s x:Operand) (t:TypeId)
  (ho:o.op= .call { callee:= .builtin .append,args:= #[s,x],argTypes:= #[t,t] })
  (base:Nat) (e:TypeId) (z:Value) (size bytes:Nat) (ht:P.underlying t=some (.slice e)) (hinfo:(P.info? e).map (fun i=>(i.zero,i.size,i.bytes))=some (some z,size,bytes))
  (hzs:z.cells.size=size) (hsz:0<size)
  (v:Value) (n:Nat) (xs:List Value) (hs:a.eval s=v) (hown:w.ownsRow base e size v n xs)
  (y:Value) (m:Nat) (ys:List Value) (hx:a.eval x=y) (hr:Rd w y size m ys) (h1: ∀ u ∈ ys,u.oneCell'=true)
  (hbytes:(n+m) * bytes≤140737488355328) (h63:n+m≤9223372036854775807) (hbase:base≤w.heap.size)
  (h: ∀ v' w',w'.ownsRow base e size v' (n+m) (xs++ys)→w.grownBy w' v.ownBlock→(∀ k,v'.ownBlock=some k→v.ownBlock=some k∨w.heap.size≤k)→wpList P ops Q rest (a.put o.dst v') w'):
  wpList P ops Q (o :: rest) a w:=by
 obtain⟨i0,hi,hz0,hz1,hz2⟩:=info_parts hinfo
 obtain⟨hl,A,cap,rfl,hc1,hc2,hcell⟩:=hr
 rcases Nat.eq_zero_or_pos m with hm|hm
 ·subst hm
  have hn:ys= []:=List.eq_nil_of_length_eq_zero (by simpa using hl)
  subst hn
  have hrun:(Builtin.append_ #[t,t] o.type #[v,.slice A 0 cap]).run P w= .ok v w:=by
   rcases hown.2 with ⟨rfl,rfl⟩|⟨g,cap',cur,rfl,_,_,hnc,_⟩
   ·cases A<;>simp[Builtin.append_,run_underlying ht,sizeOf,typeInfo,hi,Builtin.lenOf,Builtin.firstCells,loadCells,loadCellsFrom]
   ·cases A<;>simp[Builtin.append_,run_underlying ht,sizeOf,typeInfo,hi,Builtin.lenOf,Builtin.firstCells,hnc,storeCells,loadCells,loadCellsFrom]
  refine wpList_plain hgd fun K hK=>?_
  unfold Oper.wp execOp
  simp only[ho,resolve,invoke,builtin,Sem.run_bind,Sem.run_pure,Result.andThen_ok,List.map_toArray,List.map_cons,List.map_nil,hs,hx,hrun]
  exact hK _ _ (h v w (by simpa using hown) (World.grownBy.refl _ _) fun k hk=> .inl hk)
 ·obtain⟨b,off,rfl,hb,hcc⟩:=hcell hm
  refine wpList_append_own_at _ hgd s x t ho base e i0 z size bytes ht hi hz0 hz1 hz2 hzs hsz v n xs hs hown ⟨b,off,none⟩ m cap ys hx hl ?_ h1 (by unfold maxLen;omega) hbytes hbase ?_
  ·intro j u hu
   rw[show (⟨b,off,none⟩:Addr).add j=⟨b,off+j,none⟩ by unfold Addr.add;split<;>simp_all]
   exact hcc j u hu
  ·intro v' w' h2 h3 _ h5
   refine h v' w' h2 h3 fun k hk=>?_
   rcases h5 with h5|h5
   ·exact .inl (h5 ▸ hk)
   ·rw[h5] at hk;simp at hk;exact .inr (by omega)
end

theorem below_own {base:Nat} {e:TypeId} {size n:Nat} {v:Value} {cs:List Value} {B:Nat} {w0 w w':World} (hb:Below B w0 w) (hown:w.ownsRow base e size v n cs) (hg:w.grownBy w' v.ownBlock) (h1:B≤base) (h2:B≤w.heap.size):Below B w0 w':=
 hb.grown hg h2 fun k hk=>Nat.le_trans h1 (hown.lt k hk).1
section
variable {w:World} {E:TypeId} {B:Nat} {v:Value} {xs:List Int}
theorem OwI.form (h:OwI E w B v xs) (hn:0<xs.length): ∃ g cap,v= .slice (some ⟨g,0,none⟩) xs.length cap∧xs.length≤cap∧B≤g∧g<w.heap.size:=by
 rcases h.2 with ⟨_,h0⟩|⟨g,cap,cur,rfl,hbg,hg,hnc,_⟩
 ·omega
 ·exact⟨g,cap,rfl,hnc,hbg,(Array.getElem?_eq_some_iff.1 hg).1⟩
theorem OwI.cell {g cap:Nat} (h:OwI E w B (.slice (some ⟨g,0,none⟩) xs.length cap) xs) {j:Nat} {x:Int} (hj:xs[j]?=some x):w.cell? ⟨g,j,none⟩=some (.int .i64 x):=by
 have hl:=(List.getElem?_eq_some_iff.1 hj).1
 have:=World.ownsRow.cellAt h j (by omega)
 rw[this,List.getElem?_map,hj];rfl
theorem OwI.free {g cap:Nat} (h:OwI E w B (.slice (some ⟨g,0,none⟩) xs.length cap) xs) (j:Nat):w.frozen? ⟨g,j,none⟩=false:=World.ownsRow.frozenAt h j
theorem OwI.set_ {g cap:Nat} (h:OwI E w B (.slice (some ⟨g,0,none⟩) xs.length cap) xs) (j:Nat) (x:Int):
  OwI E (w.setCell ⟨g,j,none⟩ (.int .i64 x)) B (.slice (some ⟨g,0,none⟩) xs.length cap) (xs.set j x):=by
 have:=(World.ownsRow.stored h j (.int .i64 x)).1
 unfold OwI
 rw[List.map_set,List.length_set]
 exact this
theorem OwI.made (E:TypeId) (w:World) {n:Nat} (hB:B≤w.heap.size) (hn:n≤maxLen) (z:Int) (h:w.ownsRow B E 1 v n (madeCells (Value.int .i64 z).cells (n * 1)).toList):OwI E w B v (List.replicate n z):=by
 unfold OwI
 have e:(madeCells (Value.int .i64 z).cells (n * 1)).toList=List.replicate n (Value.int .i64 z):=by
  rw[Nat.mul_one];exact toList_madeCells_one _ n
 rw[e] at h
 simpa using h
end

section
variable {w w':World} {E:TypeId} {B:Nat} {xs:List Int} {g n cap:Nat}
/-- The same, where the length stands by itself. -/
theorem OwI.cellN (h:OwI E w B (.slice (some ⟨g,0,none⟩) n cap) xs) {j:Nat} {x:Int} (hj:xs[j]?=some x):w.cell? ⟨g,j,none⟩=some (.int .i64 x):=by
 have hl:=(List.getElem?_eq_some_iff.1 hj).1
 have hn:n=xs.length:=by
  rcases h.2 with ⟨h',_⟩|⟨g',cap',cur,h',_⟩
  ·cases h'
  ·injection h'
 subst hn
 exact h.cell hj
theorem OwI.freeN (h:OwI E w B (.slice (some ⟨g,0,none⟩) n cap) xs) (j:Nat):w.frozen? ⟨g,j,none⟩=false:=by
 have hn:n=xs.length:=by
  rcases h.2 with ⟨h',_⟩|⟨g',cap',cur,h',_⟩
  ·cases h'
  ·injection h'
 subst hn
 exact h.free j
theorem OwI.setN (h:OwI E w B (.slice (some ⟨g,0,none⟩) n cap) xs) (j:Nat) (x:Int):OwI E (w.setCell ⟨g,j,none⟩ (.int .i64 x)) B (.slice (some ⟨g,0,none⟩) n cap) (xs.set j x):=by
 have hn:n=xs.length:=by
  rcases h.2 with ⟨h',_⟩|⟨g',cap',cur,h',_⟩
  ·cases h'
  ·injection h'
 subst hn
 exact h.set_ j x
theorem OwI.grownN (h:OwI E w B (.slice (some ⟨g,0,none⟩) n cap) xs) (j:Nat) (u:Value):w.grownBy (w.setCell ⟨g,j,none⟩ u) (some g):=by
 have hn:n=xs.length:=by
  rcases h.2 with ⟨h',_⟩|⟨g',cap',cur,h',_⟩
  ·cases h'
  ·injection h'
 subst hn
 exact(World.ownsRow.stored h j u).2
end

theorem yH {a b c:World} {B:Nat} (h:Below B a b) (hB:B≤b.heap.size) (k:Below b.heap.size b c):Below B a c:=h.trans (k.mono hB)
theorem i64_of_wf {x:Int} (h:(Lit.int .i64 x).wf=true): -9223372036854775808≤x∧x≤9223372036854775807:=by
 simpa[Lit.wf,IntKind.min,IntKind.max,IntKind.signed,IntKind.bits] using h

/-- The bytes as a string. -/
def mkS (bs:List UInt8):ByteArray:=⟨bs.toArray⟩
theorem size_mkS (bs:List UInt8):(mkS bs).size=bs.length:=by simp[mkS,ByteArray.size]
theorem data_mkS (bs:List UInt8):(mkS bs).data.toList=bs:=rfl
theorem mkS_data (s:ByteArray):mkS s.data.toList=s:=by cases s;simp[mkS]
theorem mkS_append (a b:List UInt8):mkS a++mkS b=mkS (a++b):=by
 apply ByteArray.ext
 simp[mkS]
theorem fold_push (bs:List UInt8): ∀ s:ByteArray,(bs.map fun b=>(b.toNat:Int)).foldl (fun r n=>r.push (UInt8.ofNat n.toNat)) s=s++mkS bs:=by
 induction bs with
 |nil=>intro s;apply ByteArray.ext;simp[mkS]
 |cons b bs ih=>
  intro s
  rw[List.map_cons,List.foldl_cons,ih]
  have e:UInt8.ofNat ((b.toNat:Int)).toNat=b:=by simp
  rw[e]
  apply ByteArray.ext
  simp[mkS]
/-- A slice of bytes that reads as bs. -/
def RdY (w:World) (v:Value) (bs:List UInt8):Prop:=Rd w v 1 bs.length (bs.map fun b=>Value.int .u8 (b.toNat:Int))
def OwY (E:TypeId) (w:World) (B:Nat) (v:Value) (bs:List UInt8):Prop:=w.ownsRow B E 1 v bs.length (bs.map fun b=>Value.int .u8 (b.toNat:Int))
theorem OwY.rd {E:TypeId} {w:World} {B:Nat} {v:Value} {bs:List UInt8} (h:OwY E w B v bs):RdY w v bs:=Rd.of_own h
theorem run_str {P:Program} {w:World} {src dst e:TypeId} {v:Value} {bs:List UInt8}
  (hs:P.underlying src=some (.slice e)) (he:P.underlying e=some (.int .u8)) (hd:P.underlying dst=some .string) (h:RdY w v bs):
  (convert src dst v).run P w= .ok (.string (mkS bs)) w:=by
 obtain⟨h1,A,cap,rfl,h3,h4,h5⟩:=h
 rw[run_convert_bytes_string w src dst e A bs.length cap hs he hd]
 rcases Nat.eq_zero_or_pos bs.length with h0|h0
 ·have:bs= []:=List.eq_nil_of_length_eq_zero h0
  subst this
  cases A with
  |none=>simp[Conv.bytesToString,mkS];rfl
  |some a=>
   have:=run_bytesToString (P:=P) w a 0 cap [] (by simp[loadCells,loadCellsFrom])
   show _=Result.ok (Value.string ByteArray.empty) w
   simpa using this
 ·obtain⟨b,off,rfl,hb,hc⟩:=h5 h0
  have hcell:(loadCells ⟨b,off,none⟩ bs.length).run P w= .ok ((bs.map fun b=>(b.toNat:Int)).map (Value.int .u8)).toArray w:=by
   have:=run_loadCells_list (P:=P) w ⟨b,off,none⟩ (bs.map fun b=>Value.int .u8 (b.toNat:Int)) (fun j u hu=>by
    rw[show (⟨b,off,none⟩:Addr).add j=⟨b,off+j,none⟩ by unfold Addr.add;split<;>simp_all]
    exact hc j u hu)
   rw[List.length_map] at this
   rw[this,List.map_map];rfl
  rw[run_bytesToString w _ _ _ _ hcell,fold_push]
  congr 2
/-- The byte at a place, 0 behind the end. -/
def bA (s:ByteArray) (n:Nat):Nat:=(s.data.toList.getD n 0).toNat
theorem bA_get {s:ByteArray} {n:Nat} (h:n<s.size):(s[n]'h).toNat=bA s n:=by
 unfold bA
 have h':n<s.data.toList.length:=by rw[Array.length_toList];exact h
 rw[List.getD_eq_getElem?_getD,List.getElem?_eq_getElem h']
 rfl
theorem bA_lt (s:ByteArray) (n:Nat):bA s n<256:=UInt8.toNat_lt _

theorem undrew {w w1:World} (h:Below w.drew.heap.size w.drew w1):Below w.heap.size w w1:=⟨h.os,h.tape,h.output,h.size,h.block⟩
theorem undrewN {w w1:World} {n B:Nat} (h:Below B (w.drewN n) w1):Below B w w1:=⟨h.os,h.tape,h.output,h.size,h.block⟩
theorem below_drewN {B:Nat} {a w:World} (h:Below B a w) (n:Nat):Below B a (w.drewN n):=⟨h.os,h.tape,h.output,h.size,h.block⟩

section
variable {w w':World} {B:Nat} {E:TypeId} {sz n:Nat} {v:Value} {cs:List Value}
theorem own_below {C:Nat} (h:w.ownsRow B E sz v n cs) (hb:Below C w w') (hC: ∀ b,v.ownBlock=some b→b<C):w'.ownsRow B E sz v n cs:=by
 refine⟨h.1,?_⟩
 rcases h.2 with hn|⟨g,cap,cur,rfl,hbg,hg,rest⟩
 ·exact .inl hn
 ·exact .inr ⟨g,cap,cur,rfl,hbg,by rw[hb.block g (hC g rfl)];exact hg,rest⟩
theorem own_more {B':Nat} (h:w.ownsRow B E sz v n cs) (hB:B'≤B):w.ownsRow B' E sz v n cs:=by
 refine⟨h.1,?_⟩
 rcases h.2 with hn|⟨g,cap,cur,rfl,hbg,hg,rest⟩
 ·exact .inl hn
 ·exact .inr ⟨g,cap,cur,rfl,by omega,hg,rest⟩
theorem own_all (h:w.ownsRow B E sz v n cs) (hb:Below w.heap.size w w'):w'.ownsRow B E sz v n cs:=own_below h hb fun b hb=>(h.lt b hb).2
end
end Go.Proofs.YtbgedljbgkcpiaaGreatDoor
end
section
namespace Go.Proofs.YtbgedljbgkcpiaaGreatDoor
open Go.RowKit
/-- Block g is known whole: its cells are cs, of element type t, none of them frozen. -/
def Bk (w:World) (g:Nat) (t:TypeId) (cs:Array Value):Prop:=w.heap[g]?=some (.cells cs t (0,0))
section
variable {w w':World} {g:Nat} {t:TypeId} {cs:Array Value}
theorem Bk.lt (h:Bk w g t cs):g<w.heap.size:=(Array.getElem?_eq_some_iff.1 h).1
theorem Bk.cell (h:Bk w g t cs) (i:Nat):w.cell? ⟨g,i,none⟩=cs[i]?:=by unfold World.cell?;unfold Bk at h;simp[h]
theorem Bk.free (h:Bk w g t cs) (i:Nat):w.frozen? ⟨g,i,none⟩=false:=by unfold World.frozen?;unfold Bk at h;simp[h]
theorem Bk.born (w:World) (t:TypeId) (cs:Array Value):Bk (w.alloc (.cells cs t)) w.heap.size t cs:=heap_alloc_new w _
theorem Bk.drewN (h:Bk w g t cs) (n:Nat):Bk (w.drewN n) g t cs:=h
theorem Bk.alloc (h:Bk w g t cs) (o:Obj):Bk (w.alloc o) g t cs:=(Below.heap_alloc w o g h.lt).trans h
theorem Bk.below {B:Nat} (h:Bk w g t cs) (hb:Below B w w') (hg:g<B):Bk w' g t cs:=(hb.block g hg).trans h
theorem Bk.grown {row:Option Nat} (h:Bk w g t cs) (hb:w.grownBy w' row) (hg:some g≠row):Bk w' g t cs:=(hb.block g h.lt hg).trans h
theorem Bk.far (h:Bk w g t cs) {p:Addr} (hp:g≠p.block) (u:Value):Bk (w.setCell p u) g t cs:=(Below.heap_setCell w p u g hp).trans h
theorem Bk.set_ (h:Bk w g t cs) (i:Nat) (u:Value):Bk (w.setCell ⟨g,i,none⟩ u) g t (cs.setIfInBounds i u):=by
 unfold Bk at *
 unfold World.setCell
 simp[Array.getElem?_modify,h]
end
theorem OwI.far {E:TypeId} {w:World} {B:Nat} {v:Value} {xs:List Int} (h:OwI E w B v xs) {p:Addr} (hp: ∀ b,v.ownBlock=some b→b≠p.block) (u:Value):OwI E (w.setCell p u) B v xs:=by
 refine⟨h.1,?_⟩
 rcases h.2 with hn|⟨g,cap,cur,rfl,hbg,hg,rest⟩
 ·exact .inl hn
 ·exact .inr ⟨g,cap,cur,rfl,hbg,by rw[Below.heap_setCell w p u g (hp g rfl)];exact hg,rest⟩
theorem yK {w w1:World} {o:Obj} (h:Below (w.alloc o).heap.size (w.alloc o) w1):Below w.heap.size w w1:=((Below.refl _ _).alloc (Nat.le_refl _) o).trans (h.mono (by simp))
end Go.Proofs.YtbgedljbgkcpiaaGreatDoor
end
section
namespace Go.Proofs.YtbgedljbgkcpiaaGreatDoor
def inB (n lo hi:Int):Bool:=decide (lo≤n∧n≤hi)
theorem inB_false {n lo hi:Int} :inB n lo hi=false↔ ¬ (lo≤n∧n≤hi):=by simp[inB]
/-- A sample. -/
def Smp (x:Int):Prop:= -2147483648≤x∧x≤2147483647
instance (x:Int):Decidable (Smp x):=by unfold Smp;infer_instance
def smpB (xs:List Int):Bool:=decide (∀ x ∈ xs,Smp x)
def sigB (xs:List Int):Bool:=decide (xs.length≤4000) && smpB xs
theorem smpB_true {xs:List Int} :smpB xs=true↔ ∀ x ∈ xs,Smp x:=by simp[smpB]
theorem smpB_take_succ {xs:List Int} {k:Nat} {x:Int} (hk:xs[k]?=some x) (h:smpB (xs.take k)=true) (hx:Smp x):smpB (xs.take (k+1))=true:=by
 rw[smpB_true] at *
 intro y hy
 rw[List.take_add_one,hk] at hy
 simp at hy
 rcases hy with hy|rfl
 ·exact h y hy
 ·exact hx
theorem smpB_no {xs:List Int} {k:Nat} {x:Int} (hk:xs[k]?=some x) (hx: ¬ Smp x):smpB xs=false:=by
 rw[Bool.eq_false_iff]
 intro h
 exact hx (smpB_true.1 h x (List.mem_of_getElem? hk))
theorem take_snoc_of {α:Type} {xs:List α} {k:Nat} {x:α} (h:xs[k]?=some x):xs.take (k+1)=xs.take k++ [x]:=by rw[List.take_add_one,h];rfl
theorem set_mix {α:Type} {L X:List α} {k:Nat} {x:α} (hl:L.length=X.length) (h:L[k]?=some x):(L.take k++X.drop k).set k x=L.take (k+1)++X.drop (k+1):=by
 have hk:=(List.getElem?_eq_some_iff.1 h).1
 rw[take_snoc_of h,List.set_append_right _ _ (by simp;omega)]
 have e:k - (L.take k).length=0:=by simp;omega
 rw[e,List.drop_eq_getElem_cons (l:=X) (i:=k) (by omega),List.set_cons_zero]
 simp
theorem getElem?_mix {α:Type} {L X:List α} {k:Nat} (hl:L.length=X.length) (hk:k<X.length):(L.take k++X.drop k)[k]?=X[k]?:=by
 rw[List.getElem?_append_right (by simp;omega)]
 simp;congr 1;omega
/-- The numbers with which a slice is marked. -/
def marks (k n:Nat):List Int:=(List.range n).map fun(i:Nat)=>((k+i:Nat):Int)
theorem length_marks (k n:Nat):(marks k n).length=n:=by simp[marks]
theorem marks_at {k n i:Nat} (h:i<n):(marks k n)[i]?=some ((k+i:Nat):Int):=by simp[marks,h]
theorem eq_of_takes {α:Type} {xs ys:List α} {k:Nat} (hk:k=xs.length) (hl:xs.length=ys.length) (h:xs.take k=ys.take k):xs=ys:=by
 subst hk
 rw[List.take_length,hl,List.take_length] at h
 exact h
theorem takes_succ {α:Type} {xs ys:List α} {k:Nat} {x:α} (h:xs.take k=ys.take k) (hx:xs[k]?=some x) (hy:ys[k]?=some x):xs.take (k+1)=ys.take (k+1):=by
 rw[take_snoc_of hx,take_snoc_of hy,h]
theorem ne_at {α:Type} {xs ys:List α} {k:Nat} {x y:α} (hx:xs[k]?=some x) (hy:ys[k]?=some y) (h:x≠y):xs≠ys:=by
 rintro rfl
 rw[hx] at hy
 exact h (by injection hy)

theorem toList_loop (s:ByteArray): ∀ (n i:Nat) (r:List UInt8),n=s.size - i→ByteArray.toList.loop s i r=r.reverse++s.data.toList.drop i:=by
 intro n
 induction n with
 |zero=>
  intro i r h
  unfold ByteArray.toList.loop
  rw[if_neg (by omega),List.drop_eq_nil_of_le (by rw[Array.length_toList];show s.size≤i;omega),List.append_nil]
 |succ n ih=>
  intro i r h
  unfold ByteArray.toList.loop
  have hi:i<s.data.toList.length:=by rw[Array.length_toList];show i<s.size;omega
  rw[if_pos (by omega),ih (i+1) _ (by omega),List.drop_eq_getElem_cons hi]
  have:s.get! i=s.data.toList[i]:=by
   have hd:i<s.data.size:=by simpa using hi
   rw[Array.getElem_toList];exact getElem!_pos s.data i hd
  rw[this];simp
theorem toList_eq (s:ByteArray):s.toList=s.data.toList:=by
 have:=toList_loop s s.size 0 [] (by simp)
 simpa[ByteArray.toList] using this
theorem str_eq {a b:ByteArray} :(a.toList == b.toList)=decide (a=b):=by
 rw[toList_eq,toList_eq,Bool.eq_iff_iff]
 simp only[beq_iff_eq,decide_eq_true_eq]
 constructor
 ·intro h;apply ByteArray.ext;exact Array.toList_inj.1 h
 ·rintro rfl;rfl
end Go.Proofs.YtbgedljbgkcpiaaGreatDoor
end
section
namespace Go.Proofs.YtbgedljbgkcpiaaGreatDoor
/-- The parts of a text between the bytes c. -/
def partsL (c:UInt8):List UInt8→List (List UInt8)
 | []=> [[]]
 |b :: t=>if b=c then [] :: partsL c t else match partsL c t with
  | []=> [b] :: []
  |p :: r=>(b :: p) :: r
def glue (p:List UInt8):List (List UInt8)→List (List UInt8)
 | []=> [p]
 |q :: r=>(p++q) :: r
theorem partsL_ne (c:UInt8) (l:List UInt8):partsL c l≠ []:=by
 cases l with
 |nil=>simp[partsL]
 |cons b t=>unfold partsL;split;simp;split<;>simp
theorem glue_nil {l:List (List UInt8)} (h:l≠ []):glue [] l=l:=by cases l<;>simp_all [glue]
theorem glue_hit (c:UInt8) (p t:List UInt8):glue p (partsL c (c :: t))=p :: glue [] (partsL c t):=by
 rw[glue_nil (partsL_ne _ _)]
 simp[partsL,glue]
theorem glue_miss {c b:UInt8} (h:b≠c) (p t:List UInt8):glue p (partsL c (b :: t))=glue (p++ [b]) (partsL c t):=by
 rw[partsL,if_neg h]
 cases hp:partsL c t with
 |nil=>exact absurd hp (partsL_ne _ _)
 |cons q r=>simp[glue]
theorem length_partsL (c:UInt8) (l:List UInt8):(partsL c l).length=l.count c+1:=by
 induction l with
 |nil=>simp[partsL]
 |cons b t ih=>
  unfold partsL
  split
  ·next h=>subst h;simp[ih]
  ·next h=>
   have hn:List.count c (b :: t)=List.count c t:=by simp[List.count_cons,h]
   rw[hn,←ih]
   cases hp:partsL c t with
   |nil=>exact absurd hp (partsL_ne _ _)
   |cons q r=>simp
/-- The place of the first byte c; the length where there is none. -/
def fstI (c:UInt8) (l:List UInt8):Nat:=l.findIdx (· == c)
theorem partsL_cut (c:UInt8) (l:List UInt8):partsL c l=if fstI c l<l.length then l.take (fstI c l) :: partsL c (l.drop (fstI c l+1)) else [l]:=by
 unfold fstI
 induction l with
 |nil=>simp[partsL]
 |cons b t ih=>
  by_cases h:b=c
  ·subst h
   simp[partsL,List.findIdx_cons]
  ·have hb:(b == c)=false:=by simp[h]
   have hl:partsL c (b :: t)=match partsL c t with| []=> [b] :: []|p :: r=>(b :: p) :: r:=by rw[partsL,if_neg h]
   rw[hl,ih,List.findIdx_cons,hb]
   simp only[cond_false,List.length_cons,Nat.add_lt_add_iff_right,List.take_succ_cons,List.drop_succ_cons]
   by_cases hf:List.findIdx (fun x=>x == c) t<t.length
   ·simp only[if_pos hf]
   ·simp only[if_neg hf]
theorem count_fst {c:UInt8} {l:List UInt8} :l.count c=if fstI c l<l.length then (l.drop (fstI c l+1)).count c+1 else 0:=by
 have h1:=length_partsL c l
 rw[partsL_cut] at h1
 split at h1
 ·next h=>rw[if_pos h];simp[length_partsL] at h1;omega
 ·next h=>rw[if_neg h];simp at h1;omega
/-- The lines of a text: what lies in front of each newline. -/
def partsB (c:UInt8) (s:ByteArray):List ByteArray:=(partsL c s.data.toList).map mkS
def linesF (s:ByteArray):List ByteArray:=(partsB 10 s).dropLast
def lastF (s:ByteArray):List UInt8:=(partsL 10 s.data.toList).getLast (partsL_ne _ _)
theorem length_partsB (c:UInt8) (s:ByteArray):(partsB c s).length=s.data.toList.count c+1:=by simp[partsB,length_partsL]
theorem length_linesF (s:ByteArray):(linesF s).length=s.data.toList.count 10:=by simp[linesF,length_partsB]
/-- Is it a text? -/
def textB (s:ByteArray):Bool:=decide (lastF s= []) && decide ((linesF s).length≤200)
theorem last_suffix (l:List UInt8):((partsL 10 l).getLast (partsL_ne _ _)= [])↔(l= []∨ [10]<:+l):=by
 induction l with
 |nil=>simp[partsL]
 |cons b t ih=>
  have hc: [10]<:+b :: t↔(b=10∧t= [])∨ [10]<:+t:=by
   rw[List.suffix_cons_iff]
   constructor
   ·rintro(h|h)
    ·simp at h;exact .inl ⟨h.1.symm,by first|exact h.2|exact h.2.symm⟩
    ·exact .inr h
   ·rintro(⟨rfl,rfl⟩|h)
    ·exact .inl rfl
    ·exact .inr h
  simp only[hc,reduceCtorEq,false_or]
  by_cases h:b=10
  ·have:(partsL 10 (b :: t)).getLast (partsL_ne _ _)=(partsL 10 t).getLast (partsL_ne _ _):=by
    simp only[partsL,if_pos h]
    rw[List.getLast_cons (partsL_ne _ _)]
   rw[this,ih]
   simp[h]
  ·have hne:=partsL_ne 10 t
   by_cases ht:t= []
   ·subst ht;simp[partsL,h]
   ·have hg:partsL 10 (b :: t)=match partsL 10 t with| []=> [b] :: []|p :: r=>(b :: p) :: r:=by rw[partsL,if_neg h]
    cases hp:partsL 10 t with
    |nil=>exact absurd hp hne
    |cons p r=>
     have e1:(partsL 10 (b :: t)).getLast (partsL_ne _ _)=((b :: p) :: r).getLast (by simp):=by congr 1;rw[hg,hp]
     have e2:(partsL 10 t).getLast hne=(p :: r).getLast (by simp):=by congr 1
     cases r with
     |nil=>
      rw[e1]
      simp only[List.getLast_singleton,reduceCtorEq,false_iff]
      rintro(⟨h1,_⟩|h1)
      ·exact h h1
      ·have hcnt:List.count 10 t=0:=by have:=length_partsL 10 t;rw[hp] at this;simpa using this
       have:(10:UInt8) ∈ t:=by obtain⟨u,rfl⟩:=h1;simp
       exact absurd this (List.count_eq_zero.1 hcnt)
     |cons q r=>
      rw[e1,List.getLast_cons (by simp)]
      rw[e2,List.getLast_cons (by simp)] at ih
      rw[ih]
      simp[ht,h]

/-- A change: its kind, its place, its line. -/
structure Chg where
 k:Int
 p:Int
 t:ByteArray
deriving DecidableEq
/-- The length of the longest common subsequence. -/
def lcsF:List ByteArray→List ByteArray→Nat
 | [],_=>0
 |_ :: _,[]=>0
 |x :: xs,y :: ys=>if x=y then lcsF xs ys+1 else max (lcsF xs (y :: ys)) (lcsF (x :: xs) ys)
termination_by xs ys=>xs.length+ys.length
/-- The changes from some lines to others. -/
def diffF:Nat→List ByteArray→List ByteArray→List Chg
 |_,[],[]=> []
 |i,x :: xs,[]=>⟨1,(i:Int),x⟩ :: diffF (i+1) xs []
 |i,[],y :: ys=>⟨2,(i:Int),y⟩ :: diffF i [] ys
 |i,x :: xs,y :: ys=>if x=y then diffF (i+1) xs ys
  else if lcsF (x :: xs) ys≤lcsF xs (y :: ys) then ⟨1,(i:Int),x⟩ :: diffF (i+1) xs (y :: ys)
  else ⟨2,(i:Int),y⟩ :: diffF i (x :: xs) ys
termination_by _ xs ys=>xs.length+ys.length
theorem lcsF_le (xs ys:List ByteArray):lcsF xs ys≤xs.length:=by
 fun_induction lcsF xs ys with
 |case1=>simp
 |case2=>simp
 |case3 x xs ys ih=>simp;omega
 |case4 x xs y ys _ ih1 ih2=>simp at *;omega
theorem length_diffF (i:Nat) (xs ys:List ByteArray):(diffF i xs ys).length≤xs.length+ys.length:=by
 fun_induction diffF i xs ys<;>simp_all<;>omega
end Go.Proofs.YtbgedljbgkcpiaaGreatDoor
end
section
namespace Go.Proofs.YtbgedljbgkcpiaaGreatDoor
open Go.RowKit
def arrA (V:Nat→Value) (n:Nat):Array Value:=((List.range n).map V).toArray
theorem arrA_at {V:Nat→Value} {n i:Nat} (h:i<n):(arrA V n)[i]?=some (V i):=by simp[arrA,h]
theorem arrA_set {V:Nat→Value} {n i:Nat} (x:Value):(arrA V n).setIfInBounds i x=arrA (fun j=>if j=i then x else V j) n:=by
 apply Array.ext
 ·simp[arrA]
 ·intro j h1 h2
  simp only[arrA,Array.size_setIfInBounds,List.size_toArray,List.length_map,List.length_range] at h1
  rw[Array.getElem_setIfInBounds (by simpa[arrA] using h1)]
  simp only[arrA,List.getElem_toArray,List.getElem_map,List.getElem_range]
  by_cases h:i=j
  ·subst h;simp
  ·rw[if_neg h,if_neg (Ne.symm h)]
theorem arrA_congr {V W:Nat→Value} {n:Nat} (h: ∀ i,i<n→V i=W i):arrA V n=arrA W n:=by
 unfold arrA
 congr 1
 exact List.map_congr_left fun i hi=>h i (List.mem_range.1 hi)
theorem own_bk {w:World} {B g n:Nat} {e:TypeId} {z:Value} (h:w.ownsRow B e 1 (.slice (some ⟨g,0,none⟩) n n) n (madeCells (#[z]:Array Value) (n * 1)).toList):Bk w g e (arrA (fun _=>z) n):=by
 rcases h.2 with ⟨h',_⟩|⟨g',cap,cur,h',hb,hg,hn,hm,hs,ht⟩
 ·cases h'
 ·injection h' with h1 h2 h3
  injection h1 with h1
  injection h1 with h1
  subst h1 h3
  have hc:cur.toList=(madeCells (#[z]:Array Value) (n * 1)).toList:=by
   rw[←ht,List.take_of_length_le (by rw[Array.length_toList];omega)]
  have he:cur=arrA (fun _=>z) n:=by
   apply Array.toList_inj.1
   rw[hc,Nat.mul_one,toList_madeCells_one]
   simp[arrA,List.map_const']
  unfold Bk
  rw[hg,he]
/-- A table: block g holds the rows' slices, block R i the numbers of row i. -/
def Mat (TI TO:TypeId) (w:World) (g:Nat) (R:Nat→Nat) (n m:Nat) (M:Nat→Nat→Int):Prop:=
 Bk w g TO (arrA (fun i=> .slice (some ⟨R i,0,none⟩) m m) n)∧(∀ i,i<n→Bk w (R i) TI (arrA (fun j=> .int .i64 (M i j)) m))∧(∀ i,i<n→R i≠g)∧(∀ i j,i<n→j<n→i≠j→R i≠R j)
section
variable {TI TO:TypeId} {w w':World} {g n m:Nat} {R:Nat→Nat} {M M':Nat→Nat→Int}
theorem Mat.out (h:Mat TI TO w g R n m M) {i:Nat} (hi:i<n):w.cell? ⟨g,i,none⟩=some (.slice (some ⟨R i,0,none⟩) m m):=by rw[h.1.cell,arrA_at hi]
theorem Mat.at_ (h:Mat TI TO w g R n m M) {i j:Nat} (hi:i<n) (hj:j<m):w.cell? ⟨R i,j,none⟩=some (.int .i64 (M i j)):=by rw[(h.2.1 i hi).cell,arrA_at hj]
theorem Mat.free (h:Mat TI TO w g R n m M) {i:Nat} (hi:i<n) (j:Nat):w.frozen? ⟨R i,j,none⟩=false:=(h.2.1 i hi).free j
theorem Mat.lt (h:Mat TI TO w g R n m M) {i:Nat} (hi:i<n):R i<w.heap.size:=(h.2.1 i hi).lt
theorem Mat.congr (h:Mat TI TO w g R n m M) (he: ∀ i j,i<n→j<m→M i j=M' i j):Mat TI TO w g R n m M':=
 ⟨h.1,fun i hi=>by rw[←arrA_congr (V:=fun j=>Value.int .i64 (M i j)) (fun j hj=>by rw[he i j hi hj])];exact h.2.1 i hi,h.2.2⟩
theorem Mat.set_ (h:Mat TI TO w g R n m M) {i:Nat} (hi:i<n) (j:Nat) (x:Int):Mat TI TO (w.setCell ⟨R i,j,none⟩ (.int .i64 x)) g R n m (fun a b=>if a=i∧b=j then x else M a b):=by
 refine⟨h.1.far (p:=⟨R i,j,none⟩) (fun e=>h.2.2.1 i hi e.symm) _,fun k hk=>?_,h.2.2⟩
 by_cases hki:k=i
 ·subst hki
  have:=(h.2.1 k hk).set_ j (.int .i64 x)
  rw[arrA_set] at this
  rw[arrA_congr (W:=fun b=>if b=j then Value.int .i64 x else Value.int .i64 (M k b)) (fun b _=>by by_cases hb:b=j<;>simp[hb])]
  exact this
 ·have:=(h.2.1 k hk).far (p:=⟨R i,j,none⟩) (h.2.2.2 k i hk hi hki) (.int .i64 x)
  rw[arrA_congr (W:=fun b=>Value.int .i64 (M k b)) (fun b _=>by simp[hki])]
  exact this
end
/-- The lengths of the longest common subsequences of the ends. -/
def lenM (a b:List ByteArray) (r c:Nat):Int:=(lcsF (a.drop r) (b.drop c):Int)
theorem lcsF_nil (xs:List ByteArray):lcsF xs []=0:=by cases xs<;>simp[lcsF]
theorem lenM_row (a b:List ByteArray) (c:Nat):lenM a b a.length c=0:=by unfold lenM;rw[List.drop_length];simp[lcsF]
theorem lenM_col (a b:List ByteArray) (r:Nat):lenM a b r b.length=0:=by unfold lenM;rw[List.drop_length,lcsF_nil];rfl
theorem lenM_eq {a b:List ByteArray} {i j:Nat} {x y:ByteArray} (hx:a[i]?=some x) (hy:b[j]?=some y):lenM a b i j=if x=y then lenM a b (i+1) (j+1)+1 else max (lenM a b (i+1) j) (lenM a b i (j+1)):=by
 have hi:=(List.getElem?_eq_some_iff.1 hx)
 have hj:=(List.getElem?_eq_some_iff.1 hy)
 obtain⟨hi1,hi2⟩:=hi
 obtain⟨hj1,hj2⟩:=hj
 have e1:a.drop i=x :: a.drop (i+1):=by rw[List.drop_eq_getElem_cons hi1,hi2]
 have e2:b.drop j=y :: b.drop (j+1):=by rw[List.drop_eq_getElem_cons hj1,hj2]
 unfold lenM
 rw[e1,e2]
 simp only[lcsF]
 split
 ·push_cast;rfl
 ·omega
theorem lenM_bd (a b:List ByteArray) (r c:Nat):0≤lenM a b r c∧lenM a b r c≤a.length:=by
 unfold lenM
 have:=lcsF_le (a.drop r) (b.drop c)
 rw[List.length_drop] at this
 omega
/-- The table, filled from row I on, and in the row before from column J on. -/
def MxF (a b:List ByteArray) (I J r c:Nat):Int:=if I≤r∨(r+1=I∧J≤c) then lenM a b r c else 0
theorem MxF_start {a b:List ByteArray} : ∀ r c,r<a.length+1→c<b.length+1→(0:Int)=MxF a b a.length (b.length+1) r c:=by
 intro r c hr hc
 unfold MxF
 split
 ·next h=>
  have:r=a.length:=by omega
  rw[this,lenM_row]
 ·rfl
theorem MxF_in {a b:List ByteArray} {i:Nat} : ∀ r c,r<a.length+1→c<b.length+1→MxF a b (i+1) (b.length+1) r c=MxF a b (i+1) b.length r c:=by
 intro r c hr hc
 unfold MxF
 by_cases h1:i+1≤r
 ·simp[h1]
 ·by_cases h2:r+1=i+1∧b.length≤c
  ·have:c=b.length:=by omega
   rw[if_neg (by omega),if_pos (.inr h2),this,lenM_col]
  ·rw[if_neg (by omega),if_neg (by omega)]
theorem MxF_out {a b:List ByteArray} {i:Nat} : ∀ r c,r<a.length+1→c<b.length+1→MxF a b (i+1) 0 r c=MxF a b i (b.length+1) r c:=by
 intro r c hr hc
 unfold MxF
 by_cases h1:i≤r
 ·rw[if_pos (by omega),if_pos (.inl h1)]
 ·rw[if_neg (by omega),if_neg (by omega)]
theorem MxF_step {a b:List ByteArray} {i j:Nat} : ∀ r c,r<a.length+1→c<b.length+1→(if r=i∧c=j then lenM a b i j else MxF a b (i+1) (j+1) r c)=MxF a b (i+1) j r c:=by
 intro r c hr hc
 unfold MxF
 by_cases h:r=i∧c=j
 ·rw[if_pos h,if_pos (by omega),h.1,h.2]
 ·rw[if_neg h]
  by_cases h1:i+1≤r∨r+1=i+1∧j+1≤c
  ·rw[if_pos h1,if_pos (by omega)]
  ·rw[if_neg h1,if_neg (by omega)]
theorem MxF_all {a b:List ByteArray} : ∀ r c,r<a.length+1→c<b.length+1→MxF a b 0 (b.length+1) r c=lenM a b r c:=by
 intro r c _ _
 unfold MxF
 rw[if_pos (.inl (Nat.zero_le _))]
theorem MxF_low {a b:List ByteArray} {i j c:Nat} :MxF a b (i+1) j (i+1) c=lenM a b (i+1) c:=by unfold MxF;rw[if_pos (.inl (Nat.le_refl _))]
theorem MxF_right {a b:List ByteArray} {i j:Nat} :MxF a b (i+1) (j+1) i (j+1)=lenM a b i (j+1):=by unfold MxF;rw[if_pos (.inr ⟨rfl,Nat.le_refl _⟩)]
end Go.Proofs.YtbgedljbgkcpiaaGreatDoor
end
