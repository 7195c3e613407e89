/- Words for memory: a slice that reads as a list, a slice of the call's own, kept over what other calls do. No program is named here. Words for memory: a block known whole; a world that differs in one block. Plain functions on numbers and lists: what the small functions compute. No program is named here. Plain functions on texts: the parts of a text between bytes, its lines, changes. No program is named here. Words for memory: slices of strings, slices of changes. No program is named here. Words for memory: a slice of the call's own between two marks of the heap. No program is named here. Trees of data in memory: what a slice of structs of slices reads as, and whose blocks it takes. No program is named here. Trees of data, field by field; data that a call has made. No program is named here. -/
import Derived.WalkKit
import Derived.WalkSpells
import Derived.WalkLawsBesides
import Derived.Deep.AppendLies
import Derived.Maps.AppendAt
import Derived.Deep.Draws
import Derived.Deep.QuietTactic
import Derived.BigQuiet
set_option linter.unusedVariables false
set_option linter.unusedSimpArgs false

namespace Go.Proofs.YtoibekfhepnedaaGreat
section
open Go.RowKit

def Dr (w w':World):Prop:= ∃ n,w'=w.drewN n
theorem Dr.refl (w:World):Dr w w:=⟨0,rfl⟩
theorem Dr.trans {a b c:World} (h:Dr a b) (k:Dr b c):Dr a c:=by
 obtain⟨n,rfl⟩:=h;obtain⟨m,rfl⟩:=k;exact⟨n+m,World.drewN_drewN _ _ _⟩
theorem Dr.drew {a b:World} (h:Dr a b):Dr a b.drew:=h.trans ⟨1,rfl⟩
theorem Dr.drewN {a b:World} (h:Dr a b) (n:Nat):Dr a (b.drewN n):=h.trans ⟨n,rfl⟩
theorem Dr.below {a b c:World} {B:Nat} (h:Below B a b) (k:Dr b c):Below B a c:=by
 obtain⟨n,rfl⟩:=k;exact⟨h.os,h.tape,h.output,h.size,h.block⟩
theorem Dr.to_below {a b:World} (h:Dr a b) (B:Nat):Below B a b:=Dr.below (Below.refl _ _) h
theorem wL {k:IntKind} {a b:Int} (h:a=b):Ending.returned (.int k a)= .returned (.int k b):=by rw[h]
theorem yP {a b:Bool} (h:a=b):Ending.returned (.bool a)= .returned (.bool b):=by rw[h]
theorem ret_str {a b:ByteArray} (h:a=b):Ending.returned (.string a)= .returned (.string b):=by rw[h]
structure Sec (p:Prop):Prop where
 out:p
theorem xN {p:Prop} (h:p):Sec p:=⟨h⟩
def Rd (w:World) (v:Value) (size n:Nat) (cs:List Value):Prop:=
 cs.length=n * size∧ ∃ A cap,v= .slice A n cap∧n≤cap∧cap≤9223372036854775807∧
  (0<n→ ∃ b off,A=some ⟨b,off,none⟩∧b<w.heap.size∧ ∀ j u,cs[j]?=some u→w.cell? ⟨b,off+j,none⟩=some u)

section
variable {w w':World} {v:Value} {size n:Nat} {cs:List Value}
theorem Rd.keep (h:Rd w v size n cs) (hs:w.heap.size≤w'.heap.size) (hk: ∀ b,v.ownBlock=some b→b<w.heap.size→w'.heap[b]?=w.heap[b]?):Rd w' v size n cs:=by
 obtain⟨h1,A,cap,rfl,h3,h4,h5⟩:=h;refine⟨h1,A,cap,rfl,h3,h4,fun hn=>?_⟩;obtain⟨b,off,rfl,hb,hc⟩:=h5 hn;exact⟨b,off,rfl,by omega,fun j u hu=>(World.cell?_of_block (hk b rfl hb)).trans (hc j u hu)⟩
theorem Rd.below (h:Rd w v size n cs) (hb:Below w.heap.size w w'):Rd w' v size n cs:=h.keep hb.size fun b _ hlt=>hb.block b hlt
theorem Rd.grown {row:Option Nat} (h:Rd w v size n cs) (hg:w.grownBy w' row) (hv: ∀ b,v.ownBlock=some b→some b≠row):Rd w' v size n cs:=
 h.keep hg.size fun b e hlt=>hg.block b hlt (hv b e)
theorem Rd.alloc (h:Rd w v size n cs) (o:Obj):Rd (w.alloc o) v size n cs:=h.keep (by simp) fun b _ hlt=>Below.heap_alloc w o b hlt
theorem Rd.drewN (h:Rd w v size n cs) (k:Nat):Rd (w.drewN k) v size n cs:=h
theorem Rd.nil_ (w:World) (size:Nat):Rd w (.slice none 0 0) size 0 []:=⟨by simp,none,0,rfl,Nat.le_refl _,by omega,fun h=>absurd h (by omega)⟩
theorem Rd.of_own {base:Nat} {e:TypeId} (h:w.ownsRow base e size v n cs):Rd w v size n cs:=by
 refine⟨h.1,?_⟩
 rcases h.2 with ⟨rfl,rfl⟩|⟨g,cap,cur,rfl,hb,hg,hn,hm,hs,ht⟩
 ·exact⟨none,0,rfl,Nat.le_refl _,by omega,fun h=>absurd h (by omega)⟩
 ·refine⟨some ⟨g,0,none⟩,cap,rfl,hn,by unfold maxLen at hm;omega,fun hpos=>⟨g,0,rfl,(Array.getElem?_eq_some_iff.1 hg).1,fun j u hu=>?_⟩⟩
  have:=h.cells (g:=g) rfl j u hu;rw[show (⟨g,0+j,none⟩:Addr)=(⟨g,0,none⟩:Addr).add j by unfold Addr.add;split<;>simp_all];exact this
end

def RdI (w:World) (v:Value) (xs:List Int):Prop:=Rd w v 1 xs.length (xs.map (Value.int .i64))
def OwI (E:TypeId) (w:World) (B:Nat) (v:Value) (xs:List Int):Prop:=w.ownsRow B E 1 v xs.length (xs.map (Value.int .i64))

section
variable {w w':World} {v:Value} {xs:List Int} {E:TypeId} {B:Nat}
theorem OwI.rd (h:OwI E w B v xs):RdI w v xs:=Rd.of_own h
theorem OwI.lt (h:OwI E w B v xs): ∀ k,v.ownBlock=some k→B≤k∧k<w.heap.size:=World.ownsRow.lt h
theorem RdI.below (h:RdI w v xs) (hb:Below w.heap.size w w'):RdI w' v xs:=Rd.below h hb
theorem RdI.keep (h:RdI w v xs) (hs:w.heap.size≤w'.heap.size) (hk: ∀ b,v.ownBlock=some b→b<w.heap.size→w'.heap[b]?=w.heap[b]?):RdI w' v xs:=Rd.keep h hs hk
theorem RdI.grown {row:Option Nat} (h:RdI w v xs) (hg:w.grownBy w' row) (hv: ∀ b,v.ownBlock=some b→some b≠row):RdI w' v xs:=Rd.grown h hg hv
theorem RdI.open_ (h:RdI w v xs): ∃ A cap,v= .slice A xs.length cap∧xs.length≤cap∧cap≤9223372036854775807∧
  (∀ k x,xs[k]?=some x→ ∃ b off,A=some ⟨b,off,none⟩∧b<w.heap.size∧w.cell? ⟨b,off+k,none⟩=some (.int .i64 x)):=by
 obtain⟨_,A,cap,rfl,h3,h4,h5⟩:=h;refine⟨A,cap,rfl,h3,h4,fun k x hk=>?_⟩;obtain⟨b,off,rfl,hb,hc⟩:=h5 (by have:=(List.getElem?_eq_some_iff.1 hk).1;omega);exact⟨b,off,rfl,hb,hc k _ (by rw[List.getElem?_map,hk];rfl)⟩
theorem OwI.below {C:Nat} (h:OwI E w B v xs) (hb:Below C w w') (hC: ∀ b,v.ownBlock=some b→b<C):OwI E w' B v xs:=by
 refine⟨h.1,?_⟩
 rcases h.2 with hn|⟨g,cap,cur,rfl,hbg,hg,rest⟩
 ·exact .inl hn
 ·exact .inr ⟨g,cap,cur,rfl,hbg,by rw[hb.block g (hC g rfl)];exact hg,rest⟩
theorem OwI.more {B':Nat} (h:OwI E w B v xs) (hB:B'≤B):OwI E w B' v xs:=by
 refine⟨h.1,?_⟩
 rcases h.2 with hn|⟨g,cap,cur,rfl,hbg,hg,rest⟩
 ·exact .inl hn
 ·exact .inr ⟨g,cap,cur,rfl,by omega,hg,rest⟩
end

section
variable {P:Program}
theorem app_one {w:World} {ops:Array Oper} {rest:List Oper} {o:Oper} {a:Act} {Q:Exit→Act→World→Prop} {news:Array Value} (hgd:o.guard=none) (s x:Operand) (t:TypeId)
  (ho:o.op= .call { callee:= .builtin .append,args:= #[s,x],argTypes:= #[t,t] })
  (base:Nat) (e:TypeId) (z:Value) (size bytes:Nat) (ht:P.underlying t=some (.slice e)) (hinfo:(P.info? e).map (fun i=>(i.zero,i.size,i.bytes))=some (some z,size,bytes))
  (hzs:z.cells.size=size) (hsz:0<size)
  (v:Value) (n:Nat) (xs:List Value) (hs:a.eval s=v) (hown:w.ownsRow base e size v n xs)
  (hx:a.eval x= .slice (some ⟨w.heap.size,0,none⟩) 1 1) (hl:news.size=size) (h1: ∀ u ∈ news.toList,u.oneCell'=true)
  (hbytes:(n+1) * bytes≤140737488355328) (h63:n+1≤9223372036854775807) (hbase:base≤w.heap.size)
  (h: ∀ v' w',w'.ownsRow base e size v' (n+1) (xs++news.toList)→w.grownBy w' v.ownBlock→(∀ k,v'.ownBlock=some k→v.ownBlock=some k∨w.heap.size≤k)→wpList P ops Q rest (a.put o.dst v') w'):
  wpList P ops Q (o :: rest) a (w.alloc (.cells news e)):=by
 obtain⟨i0,hi,hz0,hz1,hz2⟩:=info_parts hinfo;refine wpList_append_own_at _ hgd s x t ho base e i0 z size bytes ht hi hz0 hz1 hz2 hzs hsz v n xs hs (hown.alloc _) ⟨w.heap.size,0,none⟩ 1 1 news.toList hx (by simp[hl]) ?_ h1 (by unfold maxLen;omega) hbytes (by simp;omega) ?_
 ·exact World.news_of_block (heap_alloc_new w _)
 ·intro v' w' h2 h3 _ h5
  refine h v' w' h2 ((World.grownBy_alloc w _ _).trans h3) fun k hk=>?_
  rcases h5 with h5|h5
  ·exact .inl (h5 ▸ hk)
  ·rw[h5] at hk;simp at hk;exact .inr (by omega)
theorem app_many {w:World} {ops:Array Oper} {rest:List Oper} {o:Oper} {a:Act} {Q:Exit→Act→World→Prop} (hgd:o.guard=none) (s x:Operand) (t:TypeId)
  (ho:o.op= .call { callee:= .builtin .append,args:= #[s,x],argTypes:= #[t,t] })
  (base:Nat) (e:TypeId) (z:Value) (size bytes:Nat) (ht:P.underlying t=some (.slice e)) (hinfo:(P.info? e).map (fun i=>(i.zero,i.size,i.bytes))=some (some z,size,bytes))
  (hzs:z.cells.size=size) (hsz:0<size)
  (v:Value) (n:Nat) (xs:List Value) (hs:a.eval s=v) (hown:w.ownsRow base e size v n xs)
  (y:Value) (m:Nat) (ys:List Value) (hx:a.eval x=y) (hr:Rd w y size m ys) (h1: ∀ u ∈ ys,u.oneCell'=true)
  (hbytes:(n+m) * bytes≤140737488355328) (h63:n+m≤9223372036854775807) (hbase:base≤w.heap.size)
  (h: ∀ v' w',w'.ownsRow base e size v' (n+m) (xs++ys)→w.grownBy w' v.ownBlock→(∀ k,v'.ownBlock=some k→v.ownBlock=some k∨w.heap.size≤k)→wpList P ops Q rest (a.put o.dst v') w'):
  wpList P ops Q (o :: rest) a w:=by
 obtain⟨i0,hi,hz0,hz1,hz2⟩:=info_parts hinfo;obtain⟨hl,A,cap,rfl,hc1,hc2,hcell⟩:=hr
 rcases Nat.eq_zero_or_pos m with hm|hm
 ·subst hm
  have hn:ys= []:=List.eq_nil_of_length_eq_zero (by simpa using hl);subst hn
  have hrun:(Builtin.append_ #[t,t] o.type #[v,.slice A 0 cap]).run P w= .ok v w:=by
   rcases hown.2 with ⟨rfl,rfl⟩|⟨g,cap',cur,rfl,_,_,hnc,_⟩
   ·cases A<;>simp[Builtin.append_,run_underlying ht,sizeOf,typeInfo,hi,Builtin.lenOf,Builtin.firstCells,loadCells,loadCellsFrom]
   ·cases A<;>simp[Builtin.append_,run_underlying ht,sizeOf,typeInfo,hi,Builtin.lenOf,Builtin.firstCells,hnc,storeCells,loadCells,loadCellsFrom]
  refine wpList_plain hgd fun K hK=>?_
  unfold Oper.wp execOp;simp only[ho,resolve,invoke,builtin,Sem.run_bind,Sem.run_pure,Result.andThen_ok,List.map_toArray,List.map_cons,List.map_nil,hs,hx,hrun];exact hK _ _ (h v w (by simpa using hown) (World.grownBy.refl _ _) fun k hk=> .inl hk)
 ·obtain⟨b,off,rfl,hb,hcc⟩:=hcell hm
  refine wpList_append_own_at _ hgd s x t ho base e i0 z size bytes ht hi hz0 hz1 hz2 hzs hsz v n xs hs hown ⟨b,off,none⟩ m cap ys hx hl ?_ h1 (by unfold maxLen;omega) hbytes hbase ?_
  ·intro j u hu
   rw[show (⟨b,off,none⟩:Addr).add j=⟨b,off+j,none⟩ by unfold Addr.add;split<;>simp_all];exact hcc j u hu
  ·intro v' w' h2 h3 _ h5
   refine h v' w' h2 h3 fun k hk=>?_
   rcases h5 with h5|h5
   ·exact .inl (h5 ▸ hk)
   ·rw[h5] at hk;simp at hk;exact .inr (by omega)
end

theorem vH {base:Nat} {e:TypeId} {size n:Nat} {v:Value} {cs:List Value} {B:Nat} {w0 w w':World} (hb:Below B w0 w) (hown:w.ownsRow base e size v n cs) (hg:w.grownBy w' v.ownBlock) (h1:B≤base) (h2:B≤w.heap.size):Below B w0 w':=
 hb.grown hg h2 fun k hk=>Nat.le_trans h1 (hown.lt k hk).1
section
variable {w:World} {E:TypeId} {B:Nat} {v:Value} {xs:List Int}
theorem OwI.form (h:OwI E w B v xs) (hn:0<xs.length): ∃ g cap,v= .slice (some ⟨g,0,none⟩) xs.length cap∧xs.length≤cap∧B≤g∧g<w.heap.size:=by
 rcases h.2 with ⟨_,h0⟩|⟨g,cap,cur,rfl,hbg,hg,hnc,_⟩
 ·omega
 ·exact⟨g,cap,rfl,hnc,hbg,(Array.getElem?_eq_some_iff.1 hg).1⟩
theorem OwI.cell {g cap:Nat} (h:OwI E w B (.slice (some ⟨g,0,none⟩) xs.length cap) xs) {j:Nat} {x:Int} (hj:xs[j]?=some x):w.cell? ⟨g,j,none⟩=some (.int .i64 x):=by
 have hl:=(List.getElem?_eq_some_iff.1 hj).1;have:=World.ownsRow.cellAt h j (by omega);rw[this,List.getElem?_map,hj];rfl
theorem OwI.free {g cap:Nat} (h:OwI E w B (.slice (some ⟨g,0,none⟩) xs.length cap) xs) (j:Nat):w.frozen? ⟨g,j,none⟩=false:=World.ownsRow.frozenAt h j
theorem OwI.set_ {g cap:Nat} (h:OwI E w B (.slice (some ⟨g,0,none⟩) xs.length cap) xs) (j:Nat) (x:Int):
  OwI E (w.setCell ⟨g,j,none⟩ (.int .i64 x)) B (.slice (some ⟨g,0,none⟩) xs.length cap) (xs.set j x):=by
 have:=(World.ownsRow.stored h j (.int .i64 x)).1;unfold OwI;rw[List.map_set,List.length_set];exact this
theorem OwI.nil_ (E:TypeId) (w:World) (B:Nat):OwI E w B (.slice none 0 0) []:=World.ownsRow_nil w B E 1
theorem OwI.made (E:TypeId) (w:World) {n:Nat} (hB:B≤w.heap.size) (hn:n≤maxLen) (z:Int) (h:w.ownsRow B E 1 v n (madeCells (Value.int .i64 z).cells (n * 1)).toList):OwI E w B v (List.replicate n z):=by
 unfold OwI
 have e:(madeCells (Value.int .i64 z).cells (n * 1)).toList=List.replicate n (Value.int .i64 z):=by
  rw[Nat.mul_one];exact toList_madeCells_one _ n
 rw[e] at h
 simpa using h
end

section
variable {w w':World} {E:TypeId} {B:Nat} {xs:List Int} {g n cap:Nat}
theorem OwI.yJz (h:OwI E w B (.slice (some ⟨g,0,none⟩) n cap) xs) {j:Nat} {x:Int} (hj:xs[j]?=some x):w.cell? ⟨g,j,none⟩=some (.int .i64 x):=by
 have hl:=(List.getElem?_eq_some_iff.1 hj).1
 have hn:n=xs.length:=by
  rcases h.2 with ⟨h',_⟩|⟨g',cap',cur,h',_⟩
  ·cases h'
  ·injection h'
 subst hn;exact h.cell hj
theorem OwI.freeN (h:OwI E w B (.slice (some ⟨g,0,none⟩) n cap) xs) (j:Nat):w.frozen? ⟨g,j,none⟩=false:=by
 have hn:n=xs.length:=by
  rcases h.2 with ⟨h',_⟩|⟨g',cap',cur,h',_⟩
  ·cases h'
  ·injection h'
 subst hn;exact h.free j
theorem OwI.setN (h:OwI E w B (.slice (some ⟨g,0,none⟩) n cap) xs) (j:Nat) (x:Int):OwI E (w.setCell ⟨g,j,none⟩ (.int .i64 x)) B (.slice (some ⟨g,0,none⟩) n cap) (xs.set j x):=by
 have hn:n=xs.length:=by
  rcases h.2 with ⟨h',_⟩|⟨g',cap',cur,h',_⟩
  ·cases h'
  ·injection h'
 subst hn;exact h.set_ j x
theorem OwI.grownN (h:OwI E w B (.slice (some ⟨g,0,none⟩) n cap) xs) (j:Nat) (u:Value):w.grownBy (w.setCell ⟨g,j,none⟩ u) (some g):=by
 have hn:n=xs.length:=by
  rcases h.2 with ⟨h',_⟩|⟨g',cap',cur,h',_⟩
  ·cases h'
  ·injection h'
 subst hn;exact(World.ownsRow.stored h j u).2
theorem OwI.sizeN (h:OwI E w B (.slice (some ⟨g,0,none⟩) n cap) xs):n=xs.length:=by
 rcases h.2 with ⟨h',_⟩|⟨g',cap',cur,h',_⟩
 ·cases h'
 ·injection h'
end

theorem yQ {a b c:World} {B:Nat} (h:Below B a b) (hB:B≤b.heap.size) (k:Below b.heap.size b c):Below B a c:=h.trans (k.mono hB)
theorem i64_of_wf {x:Int} (h:(Lit.int .i64 x).wf=true): -9223372036854775808≤x∧x≤9223372036854775807:=by
 simpa[Lit.wf,IntKind.min,IntKind.max,IntKind.signed,IntKind.bits] using h

def mkS (bs:List UInt8):ByteArray:=⟨bs.toArray⟩
theorem size_mkS (bs:List UInt8):(mkS bs).size=bs.length:=by simp[mkS,ByteArray.size]
theorem mkS_append (a b:List UInt8):mkS a++mkS b=mkS (a++b):=by
 apply ByteArray.ext
 simp[mkS]
theorem fold_push (bs:List UInt8): ∀ s:ByteArray,(bs.map fun b=>(b.toNat:Int)).foldl (fun r n=>r.push (UInt8.ofNat n.toNat)) s=s++mkS bs:=by
 induction bs with
 |nil=>intro s;apply ByteArray.ext;simp[mkS]
 |cons b bs ih=>
  intro s;rw[List.map_cons,List.foldl_cons,ih];have e:UInt8.ofNat ((b.toNat:Int)).toNat=b:=by simp
  rw[e]
  apply ByteArray.ext
  simp[mkS]
def RdY (w:World) (v:Value) (bs:List UInt8):Prop:=Rd w v 1 bs.length (bs.map fun b=>Value.int .u8 (b.toNat:Int))
def OwY (E:TypeId) (w:World) (B:Nat) (v:Value) (bs:List UInt8):Prop:=w.ownsRow B E 1 v bs.length (bs.map fun b=>Value.int .u8 (b.toNat:Int))
theorem OwY.rd {E:TypeId} {w:World} {B:Nat} {v:Value} {bs:List UInt8} (h:OwY E w B v bs):RdY w v bs:=Rd.of_own h
theorem run_str {P:Program} {w:World} {src dst e:TypeId} {v:Value} {bs:List UInt8}
  (hs:P.underlying src=some (.slice e)) (he:P.underlying e=some (.int .u8)) (hd:P.underlying dst=some .string) (h:RdY w v bs):
  (convert src dst v).run P w= .ok (.string (mkS bs)) w:=by
 obtain⟨h1,A,cap,rfl,h3,h4,h5⟩:=h;rw[run_convert_bytes_string w src dst e A bs.length cap hs he hd]
 rcases Nat.eq_zero_or_pos bs.length with h0|h0
 ·have:bs= []:=List.eq_nil_of_length_eq_zero h0
  subst this
  cases A with
  |none=>simp[Conv.bytesToString,mkS];rfl
  |some a=>
   have:=run_bytesToString (P:=P) w a 0 cap [] (by simp[loadCells,loadCellsFrom])
   show _=Result.ok (Value.string ByteArray.empty) w
   simpa using this
 ·obtain⟨b,off,rfl,hb,hc⟩:=h5 h0
  have hcell:(loadCells ⟨b,off,none⟩ bs.length).run P w= .ok ((bs.map fun b=>(b.toNat:Int)).map (Value.int .u8)).toArray w:=by
   have:=run_loadCells_list (P:=P) w ⟨b,off,none⟩ (bs.map fun b=>Value.int .u8 (b.toNat:Int)) (fun j u hu=>by
    rw[show (⟨b,off,none⟩:Addr).add j=⟨b,off+j,none⟩ by unfold Addr.add;split<;>simp_all];exact hc j u hu)
   rw[List.length_map] at this;rw[this,List.map_map];rfl
  rw[run_bytesToString w _ _ _ _ hcell,fold_push]
  congr 2
def bA (s:ByteArray) (n:Nat):Nat:=(s.data.toList.getD n 0).toNat
theorem bA_get {s:ByteArray} {n:Nat} (h:n<s.size):(s[n]'h).toNat=bA s n:=by
 unfold bA;have h':n<s.data.toList.length:=by rw[Array.length_toList];exact h
 rw[List.getD_eq_getElem?_getD,List.getElem?_eq_getElem h']
 rfl
theorem bA_lt (s:ByteArray) (n:Nat):bA s n<256:=UInt8.toNat_lt _

theorem undrew {w w1:World} (h:Below w.drew.heap.size w.drew w1):Below w.heap.size w w1:=⟨h.os,h.tape,h.output,h.size,h.block⟩
theorem wP {w w1:World} {n B:Nat} (h:Below B (w.drewN n) w1):Below B w w1:=⟨h.os,h.tape,h.output,h.size,h.block⟩
theorem below_drewN {B:Nat} {a w:World} (h:Below B a w) (n:Nat):Below B a (w.drewN n):=⟨h.os,h.tape,h.output,h.size,h.block⟩

section
variable {w w':World} {B:Nat} {E:TypeId} {sz n:Nat} {v:Value} {cs:List Value}
theorem own_below {C:Nat} (h:w.ownsRow B E sz v n cs) (hb:Below C w w') (hC: ∀ b,v.ownBlock=some b→b<C):w'.ownsRow B E sz v n cs:=by
 refine⟨h.1,?_⟩
 rcases h.2 with hn|⟨g,cap,cur,rfl,hbg,hg,rest⟩
 ·exact .inl hn
 ·exact .inr ⟨g,cap,cur,rfl,hbg,by rw[hb.block g (hC g rfl)];exact hg,rest⟩
theorem wU {B':Nat} (h:w.ownsRow B E sz v n cs) (hB:B'≤B):w.ownsRow B' E sz v n cs:=by
 refine⟨h.1,?_⟩
 rcases h.2 with hn|⟨g,cap,cur,rfl,hbg,hg,rest⟩
 ·exact .inl hn
 ·exact .inr ⟨g,cap,cur,rfl,by omega,hg,rest⟩
theorem wX (h:w.ownsRow B E sz v n cs) (hb:Below w.heap.size w w'):w'.ownsRow B E sz v n cs:=own_below h hb fun b hb=>(h.lt b hb).2
end
theorem zQ {p:Prop} (h:p:=by first|(simp;done)|(simp;omega)|omega):p:=h
theorem zP {p:Prop} (h:p:=by first|omega|(simp;done)|(simp;omega)):p:=h
theorem ba {p:Prop} (h:p:=by repeat(first|with_reducible exact Below.refl _ _|with_reducible assumption|with_reducible refine Below.setCell ?_ (by first|omega|(simp;done)|(simp;omega)) _|with_reducible refine Below.alloc ?_ (by first|omega|(simp;done)|(simp;omega)) _|with_reducible refine Below.drew ?_|with_reducible refine below_drewN ?_ _|exact Below.refl _ _|assumption|refine Below.drew ?_|refine below_drewN ?_ _|refine Below.alloc ?_ (by first|omega|(simp;done)|(simp;omega)) _|refine Below.setCell ?_ (by first|omega|(simp;done)|(simp;omega)) _)):p:=h
theorem gE {α:Type _} {l:List α} {i:Nat} (h:i<l.length):l[i]?=some l[i]:=List.getElem?_eq_getElem h
theorem zM {p:Prop} (h:p:=by omega):p:=h
theorem zR {B:Nat} {w:World} :Below B w w:=Below.refl B w
theorem zJ {n:Nat} :n≤n:=Nat.le_refl n
theorem zW {a b c:Nat} (h:a<b) (k:b≤c):a<c:=Nat.lt_of_lt_of_le h k
end
section
open Go.RowKit
def Bk (w:World) (g:Nat) (t:TypeId) (cs:Array Value):Prop:=w.heap[g]?=some (.cells cs t (0,0))
section
variable {w w':World} {g:Nat} {t:TypeId} {cs:Array Value}
theorem Bk.lt (h:Bk w g t cs):g<w.heap.size:=(Array.getElem?_eq_some_iff.1 h).1
theorem Bk.cell (h:Bk w g t cs) (i:Nat):w.cell? ⟨g,i,none⟩=cs[i]?:=by unfold World.cell?;unfold Bk at h;simp[h]
theorem Bk.free (h:Bk w g t cs) (i:Nat):w.frozen? ⟨g,i,none⟩=false:=by unfold World.frozen?;unfold Bk at h;simp[h]
theorem Bk.born (w:World) (t:TypeId) (cs:Array Value):Bk (w.alloc (.cells cs t)) w.heap.size t cs:=heap_alloc_new w _
theorem Bk.drewN (h:Bk w g t cs) (n:Nat):Bk (w.drewN n) g t cs:=h
theorem Bk.alloc (h:Bk w g t cs) (o:Obj):Bk (w.alloc o) g t cs:=(Below.heap_alloc w o g h.lt).trans h
theorem Bk.below {B:Nat} (h:Bk w g t cs) (hb:Below B w w') (hg:g<B):Bk w' g t cs:=(hb.block g hg).trans h
theorem Bk.grown {row:Option Nat} (h:Bk w g t cs) (hb:w.grownBy w' row) (hg:some g≠row):Bk w' g t cs:=(hb.block g h.lt hg).trans h
theorem Bk.far (h:Bk w g t cs) {p:Addr} (hp:g≠p.block) (u:Value):Bk (w.setCell p u) g t cs:=(Below.heap_setCell w p u g hp).trans h
theorem Bk.set_ (h:Bk w g t cs) (i:Nat) (u:Value):Bk (w.setCell ⟨g,i,none⟩ u) g t (cs.setIfInBounds i u):=by
 unfold Bk at *;unfold World.setCell;simp[Array.getElem?_modify,h]
end
theorem OwI.far {E:TypeId} {w:World} {B:Nat} {v:Value} {xs:List Int} (h:OwI E w B v xs) {p:Addr} (hp: ∀ b,v.ownBlock=some b→b≠p.block) (u:Value):OwI E (w.setCell p u) B v xs:=by
 refine⟨h.1,?_⟩
 rcases h.2 with hn|⟨g,cap,cur,rfl,hbg,hg,rest⟩
 ·exact .inl hn
 ·exact .inr ⟨g,cap,cur,rfl,hbg,by rw[Below.heap_setCell w p u g (hp g rfl)];exact hg,rest⟩
theorem yT {w w1:World} {o:Obj} (h:Below (w.alloc o).heap.size (w.alloc o) w1):Below w.heap.size w w1:=(zR.alloc zJ o).trans (h.mono (by simp))
def Gr (g:Nat) (w w':World):Prop:=w.grownBy w' (some g)∧w'.heap.size=w.heap.size
theorem Gr.refl (g:Nat) (w:World):Gr g w w:=⟨World.grownBy.refl _ _,rfl⟩
theorem Gr.set_ {g:Nat} {a b:World} (h:Gr g a b) (i:Nat) (u:Value):Gr g a (b.setCell ⟨g,i,none⟩ u):=
 ⟨⟨h.1.os,h.1.tape,h.1.output,by simpa[World.setCell] using h.1.size,fun k hk hne=>(Below.heap_setCell b _ u k (fun e=>hne (by rw[e]))).trans (h.1.block k hk hne)⟩,by simpa[World.setCell] using h.2⟩
end
section
def inB (n lo hi:Int):Bool:=decide (lo≤n∧n≤hi)
theorem zBz {n lo hi:Int} :inB n lo hi=true↔lo≤n∧n≤hi:=by simp[inB]
theorem zEy {n lo hi:Int} :inB n lo hi=false↔ ¬ (lo≤n∧n≤hi):=by simp[inB]
def Smp (x:Int):Prop:= -2147483648≤x∧x≤2147483647
instance (x:Int):Decidable (Smp x):=by unfold Smp;infer_instance
def smpB (xs:List Int):Bool:=decide (∀ x ∈ xs,Smp x)
def wFz (xs:List Int):Bool:=decide (xs.length≤4000) && smpB xs
theorem smpB_true {xs:List Int} :smpB xs=true↔ ∀ x ∈ xs,Smp x:=by simp[smpB]
theorem uFz {xs:List Int} {k:Nat} {x:Int} (hk:xs[k]?=some x) (h:smpB (xs.take k)=true) (hx:Smp x):smpB (xs.take (k+1))=true:=by
 rw[smpB_true] at *;intro y hy;rw[List.take_add_one,hk] at hy;simp at hy
 rcases hy with hy|rfl
 ·exact h y hy
 ·exact hx
theorem smpB_no {xs:List Int} {k:Nat} {x:Int} (hk:xs[k]?=some x) (hx: ¬ Smp x):smpB xs=false:=by
 rw[Bool.eq_false_iff];intro h;exact hx (smpB_true.1 h x (List.mem_of_getElem? hk))
def wrp (n:Int):Int:=(n+2147483648) % 4294967296 - 2147483648
theorem zCz (n:Int):Smp (wrp n):=by unfold Smp wrp;omega
theorem vOz {n:Int} (h:Smp n):wrp n=n:=by unfold Smp at h;unfold wrp;omega
theorem xZ {α:Type} {xs:List α} {k:Nat} {x:α} (h:xs[k]?=some x):xs.take (k+1)=xs.take k++ [x]:=by rw[List.take_add_one,h];rfl
theorem set_mix {α:Type} {L X:List α} {k:Nat} {x:α} (hl:L.length=X.length) (h:L[k]?=some x):(L.take k++X.drop k).set k x=L.take (k+1)++X.drop (k+1):=by
 have hk:=(List.getElem?_eq_some_iff.1 h).1;rw[xZ h,List.set_append_right _ _ (by simp;omega)];have e:k - (L.take k).length=0:=by simp;omega
 rw[e,List.drop_eq_getElem_cons (l:=X) (i:=k) (by omega),List.set_cons_zero];simp
theorem yJy {α:Type} {L X:List α} {k:Nat} (hl:L.length=X.length) (hk:k<X.length):(L.take k++X.drop k)[k]?=X[k]?:=by
 rw[List.getElem?_append_right (by simp;omega)];simp;congr 1;omega
def marks (k n:Nat):List Int:=(List.range n).map fun(i:Nat)=>((k+i:Nat):Int)
theorem zOz (k n:Nat):(marks k n).length=n:=by simp[marks]
theorem marks_at {k n i:Nat} (h:i<n):(marks k n)[i]?=some ((k+i:Nat):Int):=by simp[marks,h]
theorem xTz {α:Type} {xs ys:List α} {k:Nat} (hk:k=xs.length) (hl:xs.length=ys.length) (h:xs.take k=ys.take k):xs=ys:=by
 subst hk;rw[List.take_length,hl,List.take_length] at h;exact h
theorem wLz {α:Type} {xs ys:List α} {k:Nat} {x:α} (h:xs.take k=ys.take k) (hx:xs[k]?=some x) (hy:ys[k]?=some x):xs.take (k+1)=ys.take (k+1):=by
 rw[xZ hx,xZ hy,h]
theorem ne_at {α:Type} {xs ys:List α} {k:Nat} {x y:α} (hx:xs[k]?=some x) (hy:ys[k]?=some y) (h:x≠y):xs≠ys:=by
 rintro rfl;rw[hx] at hy;exact h (by injection hy)

theorem yKy (n:Int) (m:Nat) (hm:m≤62):bits .and .i64 n ((2 ^ m - 1:Nat):Int)=n % ((2 ^ m:Nat):Int):=by
 have hp:2 ^ m≤2 ^ 62:=Nat.pow_le_pow_right (by omega) hm;have hpos:0<2 ^ m:=Nat.pow_pos (by omega)
 have e2:(BitVec.ofInt 64 ((2 ^ m - 1:Nat):Int)).toNat=2 ^ m - 1:=by
  rw[BitVec.ofInt_natCast,BitVec.toNat_ofNat];exact Nat.mod_eq_of_lt (by omega)
 have e1:((BitVec.ofInt 64 n).toNat:Int)=n % 18446744073709551616:=by
  rw[BitVec.toNat_ofInt];omega
 show IntKind.i64.wrap ((BitVec.ofInt 64 n &&& BitVec.ofInt 64 ((2 ^ m - 1:Nat):Int)).toNat:Int)=_
 rw[BitVec.toNat_and,e2,Nat.and_two_pow_sub_one_eq_mod];have hlt:(BitVec.ofInt 64 n).toNat % 2 ^ m<2 ^ m:=Nat.mod_lt _ hpos
 have e3:(((BitVec.ofInt 64 n).toNat % 2 ^ m:Nat):Int)=n % ((2 ^ m:Nat):Int):=by
  rw[Int.natCast_emod,e1]
  have hd:((2 ^ m:Nat):Int) ∣ 18446744073709551616:=by
   have:(2 ^ m:Nat) ∣ 2 ^ 64:=Nat.pow_dvd_pow 2 (by omega);exact Int.natCast_dvd_natCast.2 this
  exact Int.emod_emod_of_dvd n hd
 rw[IntWalk.i64_in _ (by omega),e3]
theorem and_32 (n:Int):bits .and .i64 n 4294967295=n % 4294967296:=yKy n 32 (by omega)
theorem and_1 (n:Int):bits .and .i64 n 1=n % 2:=yKy n 1 (by omega)
theorem wrp_mod {a b:Int} (h:a % 4294967296=b % 4294967296):wrp a=wrp b:=by unfold wrp;omega
theorem wrp_eq (n:Int):RowKit.wrap32 n=wrp n:=by unfold RowKit.wrap32 wrp;rfl
theorem wrp_small (n:Int) (h:n % 4294967296≤2147483647):n % 4294967296=wrp n:=by unfold wrp;omega
theorem wrp_big (n:Int) (h:2147483647<n % 4294967296):n % 4294967296 - 4294967296=wrp n:=by unfold wrp;omega
theorem wrp_sub (a b:Int):wrp (wrp a - wrp b)=wrp (a - b):=by unfold wrp;omega
theorem bits_xor_nat (a b:Nat) (ha:a<9223372036854775808) (hb:b<9223372036854775808):bits .xor .i64 (a:Int) (b:Int)=((a ^^^ b:Nat):Int):=by
 have hx:a ^^^ b<2 ^ 63:=Nat.xor_lt_two_pow (by omega) (by omega);have h1:(BitVec.ofInt 64 (a:Int)).toNat=a:=by rw[BitVec.ofInt_natCast,BitVec.toNat_ofNat];exact Nat.mod_eq_of_lt (by omega)
 have h2:(BitVec.ofInt 64 (b:Int)).toNat=b:=by rw[BitVec.ofInt_natCast,BitVec.toNat_ofNat];exact Nat.mod_eq_of_lt (by omega)
 show IntKind.i64.wrap ((BitVec.ofInt 64 (a:Int) ^^^ BitVec.ofInt 64 (b:Int)).toNat:Int)=_
 rw[BitVec.toNat_xor,h1,h2];exact IntWalk.i64_in _ (by omega)
theorem toList_loop (s:ByteArray): ∀ (n i:Nat) (r:List UInt8),n=s.size - i→ByteArray.toList.loop s i r=r.reverse++s.data.toList.drop i:=by
 intro n
 induction n with
 |zero=>
  intro i r h;unfold ByteArray.toList.loop;rw[if_neg (by omega),List.drop_eq_nil_of_le (by rw[Array.length_toList];show s.size≤i;omega),List.append_nil]
 |succ n ih=>
  intro i r h;unfold ByteArray.toList.loop;have hi:i<s.data.toList.length:=by rw[Array.length_toList];show i<s.size;omega
  rw[if_pos (by omega),ih (i+1) _ (by omega),List.drop_eq_getElem_cons hi]
  have:s.get! i=s.data.toList[i]:=by
   have hd:i<s.data.size:=by simpa using hi
   rw[Array.getElem_toList];exact getElem!_pos s.data i hd
  rw[this];simp
theorem toList_eq (s:ByteArray):s.toList=s.data.toList:=by
 have:=toList_loop s s.size 0 [] (by simp)
 simpa[ByteArray.toList] using this
theorem str_eq {a b:ByteArray} :(a.toList == b.toList)=decide (a=b):=by
 rw[toList_eq,toList_eq,Bool.eq_iff_iff];simp only[beq_iff_eq,decide_eq_true_eq]
 constructor
 ·intro h;apply ByteArray.ext;exact Array.toList_inj.1 h
 ·rintro rfl;rfl
end
section
structure Chg where
 k:Int
 p:Int
 t:ByteArray
deriving DecidableEq
end
section
open Go.RowKit
section
variable {α:Type} {enc:α→List Value} {sz:Nat}
theorem flat_len (h: ∀ x,(enc x).length=sz) (xs:List α):(xs.flatMap enc).length=xs.length * sz:=by
 induction xs with
 |nil=>simp
 |cons x t ih=>simp only[List.flatMap_cons,List.length_append,List.length_cons,ih,h];rw[Nat.add_mul];omega
theorem flat_at (h: ∀ x,(enc x).length=sz) {xs:List α} {k j:Nat} {x:α} {u:Value} (hk:xs[k]?=some x) (hj:(enc x)[j]?=some u):(xs.flatMap enc)[k * sz+j]?=some u:=by
 induction xs generalizing k with
 |nil=>simp at hk
 |cons y t ih=>
  rw[List.flatMap_cons]
  cases k with
  |zero=>
   simp at hk;subst hk;have:=(List.getElem?_eq_some_iff.1 hj).1;rw[List.getElem?_append_left zM]
   simpa using hj
  |succ k=>
   have e:(k+1) * sz+j=(enc y).length+(k * sz+j):=by rw[h,Nat.add_mul];omega
   rw[e,List.getElem?_append_right zM,Nat.add_sub_cancel_left];exact ih (by simpa using hk)
end

end
section
open Go.RowKit
section
variable {α:Type} {enc:α→List Value} {sz:Nat} {w w':World} {E:TypeId} {lo hi:Nat} {v:Value} {xs ys:List α}
theorem zFy (w:World) (g o:Nat) (u:Value):w.grownBy (w.setCell ⟨g,o,none⟩ u) (some g):=
 ⟨rfl,rfl,rfl,by simp[World.setCell],fun k _ hne=>Below.heap_setCell w _ u k (fun e=>hne (by rw[e]))⟩
theorem uGz {w w':World} (h:Below w.heap.size w w') (r:Option Nat):w.grownBy w' r:=⟨h.os,h.tape,h.output,h.size,fun k hk _=>h.block k hk⟩
end
end
section
open Go.RowKit
inductive T where
 |num (n:Int)
 |str (s:ByteArray)
 |sl (E:TypeId) (sz:Nat) (xs:List T)
 |st (fs:List T)
mutual
def T.wide:T→Nat
 | .num _=>1
 | .str _=>1
 | .sl _ _ _=>1
 | .st fs=>T.wides fs
def T.wides:List T→Nat
 | []=>0
 |x :: xs=>T.wide x+T.wides xs
end
mutual
def T.rd (w:World):T→List Value→Prop
 | .num n,cs=>cs= [.int .i64 n]
 | .str s,cs=>cs= [.string s]
 | .sl _ sz xs,cs=> ∃ v es,cs= [v]∧(∀ x ∈ xs,T.wide x=sz)∧Rd w v sz xs.length es∧T.rds w xs es
 | .st fs,cs=>T.rds w fs cs
def T.rds (w:World):List T→List Value→Prop
 | [],cs=>cs= []
 |x :: xs,cs=> ∃ c1 c2,cs=c1++c2∧T.rd w x c1∧T.rds w xs c2
end
mutual
def T.ow (w:World):T→List Nat→List Value→Prop
 | .num n,F,cs=>F= []∧cs= [.int .i64 n]
 | .str s,F,cs=>F= []∧cs= [.string s]
 | .sl E sz xs,F,cs=> ∃ v es G,cs= [v]∧F=v.ownBlock.toList++G∧(∀ x ∈ xs,T.wide x=sz)∧w.ownsRow 0 E sz v xs.length es∧T.ows w xs G es
 | .st fs,F,cs=>T.ows w fs F cs
def T.ows (w:World):List T→List Nat→List Value→Prop
 | [],F,cs=>F= []∧cs= []
 |x :: xs,F,cs=> ∃ F1 F2 c1 c2,F=F1++F2∧cs=c1++c2∧T.ow w x F1 c1∧T.ows w xs F2 c2
end
mutual
theorem T.rd_len {w:World} : ∀ (x:T) (cs:List Value),T.rd w x cs→cs.length=T.wide x
 | .num _,_,h=>by simp only[T.rd] at h;subst h;rfl
 | .str _,_,h=>by simp only[T.rd] at h;subst h;rfl
 | .sl _ _ _,_,h=>by simp only[T.rd] at h;obtain⟨v,es,rfl,_⟩:=h;rfl
 | .st fs,cs,h=>by simp only[T.rd] at h;simp only[T.wide];exact T.rds_len fs cs h
theorem T.rds_len {w:World} : ∀ (xs:List T) (cs:List Value),T.rds w xs cs→cs.length=T.wides xs
 | [],_,h=>by simp only[T.rds] at h;subst h;rfl
 |x :: xs,_,h=>by
  simp only[T.rds] at h;obtain⟨c1,c2,rfl,h1,h2⟩:=h;simp only[T.wides,List.length_append,T.rd_len x c1 h1,T.rds_len xs c2 h2]
end
mutual
theorem T.rd_keep {w w':World} (hs:w.heap.size≤w'.heap.size) (hk: ∀ b,b<w.heap.size→w'.heap[b]?=w.heap[b]?): ∀ (x:T) (cs:List Value),T.rd w x cs→T.rd w' x cs
 | .num _,_,h=>by simpa only[T.rd] using h
 | .str _,_,h=>by simpa only[T.rd] using h
 | .sl _ _ xs,_,h=>by
  simp only[T.rd] at h ⊢;obtain⟨v,es,rfl,hw,h1,h2⟩:=h;exact⟨v,es,rfl,hw,h1.keep hs (fun b _ hb=>hk b hb),T.rds_keep hs hk xs es h2⟩
 | .st fs,cs,h=>by simp only[T.rd] at h ⊢;exact T.rds_keep hs hk fs cs h
theorem T.rds_keep {w w':World} (hs:w.heap.size≤w'.heap.size) (hk: ∀ b,b<w.heap.size→w'.heap[b]?=w.heap[b]?): ∀ (xs:List T) (cs:List Value),T.rds w xs cs→T.rds w' xs cs
 | [],_,h=>by simpa only[T.rds] using h
 |x :: xs,_,h=>by
  simp only[T.rds] at h ⊢;obtain⟨c1,c2,rfl,h1,h2⟩:=h;exact⟨c1,c2,rfl,T.rd_keep hs hk x c1 h1,T.rds_keep hs hk xs c2 h2⟩
end
mutual
theorem T.ow_rd {w:World} : ∀ (x:T) (F:List Nat) (cs:List Value),T.ow w x F cs→T.rd w x cs
 | .num _,_,_,h=>by simp only[T.ow] at h;simp only[T.rd];exact h.2
 | .str _,_,_,h=>by simp only[T.ow] at h;simp only[T.rd];exact h.2
 | .sl _ _ xs,_,_,h=>by
  simp only[T.ow] at h;simp only[T.rd];obtain⟨v,es,G,rfl,rfl,hw,h1,h2⟩:=h;exact⟨v,es,rfl,hw,Rd.of_own h1,T.ows_rds xs G es h2⟩
 | .st fs,F,cs,h=>by simp only[T.ow] at h;simp only[T.rd];exact T.ows_rds fs F cs h
theorem T.ows_rds {w:World} : ∀ (xs:List T) (F:List Nat) (cs:List Value),T.ows w xs F cs→T.rds w xs cs
 | [],_,_,h=>by simp only[T.ows] at h;simp only[T.rds];exact h.2
 |x :: xs,_,_,h=>by
  simp only[T.ows] at h;simp only[T.rds];obtain⟨F1,F2,c1,c2,rfl,rfl,h1,h2⟩:=h;exact⟨c1,c2,rfl,T.ow_rd x F1 c1 h1,T.ows_rds xs F2 c2 h2⟩
end
theorem yDz {w w':World} {B:Nat} {E:TypeId} {sz n:Nat} {v:Value} {es:List Value} (hk: ∀ b,v.ownBlock=some b→w'.heap[b]?=w.heap[b]?) (h:w.ownsRow B E sz v n es):w'.ownsRow B E sz v n es:=by
 refine⟨h.1,?_⟩
 rcases h.2 with hn|⟨g,cap,cur,rfl,hbg,hg,rest⟩
 ·exact .inl hn
 ·exact .inr ⟨g,cap,cur,rfl,hbg,(hk g rfl).trans hg,rest⟩
mutual
theorem T.ow_keep {w w':World} : ∀ (x:T) (F:List Nat) (cs:List Value),(∀ b ∈ F,w'.heap[b]?=w.heap[b]?)→T.ow w x F cs→T.ow w' x F cs
 | .num _,_,_,_,h=>by simpa only[T.ow] using h
 | .str _,_,_,_,h=>by simpa only[T.ow] using h
 | .sl _ _ xs,_,_,hk,h=>by
  simp only[T.ow] at h ⊢;obtain⟨v,es,G,rfl,rfl,hw,h1,h2⟩:=h;exact⟨v,es,G,rfl,rfl,hw,yDz (fun b hb=>hk b (by simp[hb])) h1,T.ows_keep xs G es (fun b hb=>hk b (by simp[hb])) h2⟩
 | .st fs,F,cs,hk,h=>by simp only[T.ow] at h ⊢;exact T.ows_keep fs F cs hk h
theorem T.ows_keep {w w':World} : ∀ (xs:List T) (F:List Nat) (cs:List Value),(∀ b ∈ F,w'.heap[b]?=w.heap[b]?)→T.ows w xs F cs→T.ows w' xs F cs
 | [],_,_,_,h=>by simpa only[T.ows] using h
 |x :: xs,_,_,hk,h=>by
  simp only[T.ows] at h ⊢;obtain⟨F1,F2,c1,c2,rfl,rfl,h1,h2⟩:=h;exact⟨F1,F2,c1,c2,rfl,rfl,T.ow_keep x F1 c1 (fun b hb=>hk b (by simp[hb])) h1,T.ows_keep xs F2 c2 (fun b hb=>hk b (by simp[hb])) h2⟩
end
mutual
theorem T.ow_lt {w:World} : ∀ (x:T) (F:List Nat) (cs:List Value),T.ow w x F cs→ ∀ b ∈ F,b<w.heap.size
 | .num _,_,_,h=>by simp only[T.ow] at h;simp[h.1]
 | .str _,_,_,h=>by simp only[T.ow] at h;simp[h.1]
 | .sl _ _ xs,_,_,h=>by
  simp only[T.ow] at h;obtain⟨v,es,G,rfl,rfl,hw,h1,h2⟩:=h;intro b hb
  rcases List.mem_append.1 hb with hb|hb
  ·exact(h1.lt b (by simpa using hb)).2
  ·exact T.ows_lt xs G es h2 b hb
 | .st fs,F,cs,h=>by simp only[T.ow] at h;exact T.ows_lt fs F cs h
theorem T.ows_lt {w:World} : ∀ (xs:List T) (F:List Nat) (cs:List Value),T.ows w xs F cs→ ∀ b ∈ F,b<w.heap.size
 | [],_,_,h=>by simp only[T.ows] at h;simp[h.1]
 |x :: xs,_,_,h=>by
  simp only[T.ows] at h;obtain⟨F1,F2,c1,c2,rfl,rfl,h1,h2⟩:=h;intro b hb
  rcases List.mem_append.1 hb with hb|hb
  ·exact T.ow_lt x F1 c1 h1 b hb
  ·exact T.ows_lt xs F2 c2 h2 b hb
end
theorem T.ows_len {w:World} {xs:List T} {F:List Nat} {cs:List Value} (h:T.ows w xs F cs):cs.length=T.wides xs:=T.rds_len xs cs (T.ows_rds xs F cs h)
theorem T.ows_app {w:World} : ∀ (xs ys:List T) (F:List Nat) (cs:List Value),T.ows w (xs++ys) F cs↔ ∃ F1 F2 c1 c2,F=F1++F2∧cs=c1++c2∧T.ows w xs F1 c1∧T.ows w ys F2 c2
 | [],ys,F,cs=>by
  constructor
  ·intro h;exact⟨[],F,[],cs,rfl,rfl,by simp[T.ows],h⟩
  ·rintro⟨F1,F2,c1,c2,rfl,rfl,h1,h2⟩
   simp only[T.ows] at h1;obtain⟨rfl,rfl⟩:=h1
   simpa using h2
 |x :: xs,ys,F,cs=>by
  simp only[List.cons_append,T.ows,T.ows_app xs ys]
  constructor
  ·rintro⟨F1,_,c1,_,rfl,rfl,h1,F2,F3,c2,c3,rfl,rfl,h2,h3⟩
   exact⟨F1++F2,F3,c1++c2,c3,by simp,by simp,⟨F1,F2,c1,c2,rfl,rfl,h1,h2⟩,h3⟩
  ·rintro⟨_,F3,_,c3,rfl,rfl,⟨F1,F2,c1,c2,rfl,rfl,h1,h2⟩,h3⟩
   exact⟨F1,F2++F3,c1,c2++c3,by simp,by simp,h1,F2,F3,c2,c3,rfl,rfl,h2,h3⟩
theorem T.wides_mul {sz:Nat} : ∀ (xs:List T),(∀ x ∈ xs,T.wide x=sz)→T.wides xs=xs.length * sz
 | [],_=>by simp[T.wides]
 |x :: xs,h=>by
  simp only[T.wides,List.length_cons,h x (by simp),T.wides_mul xs (fun y hy=>h y (by simp[hy]))];rw[Nat.add_mul];omega
theorem T.rds_at {w:World} {sz:Nat} : ∀ (xs:List T) (es:List Value) (k:Nat) (x:T),(∀ x ∈ xs,T.wide x=sz)→T.rds w xs es→xs[k]?=some x→ ∃ cs,T.rd w x cs∧ ∀ j u,cs[j]?=some u→es[k * sz+j]?=some u
 | [],_,_,_,_,_,hk=>by simp at hk
 |y :: xs,es,k,x,hw,h,hk=>by
  simp only[T.rds] at h;obtain⟨c1,c2,rfl,h1,h2⟩:=h;have hl:=T.rd_len y c1 h1;rw[hw y (by simp)] at hl
  cases k with
  |zero=>
   simp at hk;subst hk;refine⟨c1,h1,fun j u hj=>?_⟩;rw[Nat.zero_mul,Nat.zero_add,List.getElem?_append_left (List.getElem?_eq_some_iff.1 hj).1];exact hj
  |succ k=>
   obtain⟨cs,h3,h4⟩:=T.rds_at xs c2 k x (fun z hz=>hw z (by simp[hz])) h2 (by simpa using hk);refine⟨cs,h3,fun j u hj=>?_⟩;have e:(k+1) * sz+j=c1.length+(k * sz+j):=by rw[hl,Nat.add_mul];omega
   rw[e,List.getElem?_append_right zM,Nat.add_sub_cancel_left];exact h4 j u hj
theorem T.yV {w:World} {E:TypeId} {sz:Nat} {xs:List T} {v:Value} (h:T.rd w (.sl E sz xs) [v]):
  ∃ A cap,v= .slice A xs.length cap∧xs.length≤cap∧cap≤9223372036854775807∧
   (∀ k x,xs[k]?=some x→ ∃ b off cs,A=some ⟨b,off,none⟩∧b<w.heap.size∧T.rd w x cs∧ ∀ j u,cs[j]?=some u→w.cell? ⟨b,off+(k * sz+j),none⟩=some u):=by
 simp only[T.rd] at h;obtain⟨v',es,hv,hw,h1,h2⟩:=h;obtain rfl:v=v':=by simpa using hv
 obtain⟨_,A,cap,rfl,h3,h4,h5⟩:=h1;refine⟨A,cap,rfl,h3,h4,fun k x hk=>?_⟩;obtain⟨b,off,rfl,hb,hc⟩:=h5 (by have:=(List.getElem?_eq_some_iff.1 hk).1;omega);obtain⟨cs,h6,h7⟩:=T.rds_at xs es k x hw h2 hk;exact⟨b,off,cs,rfl,hb,h6,fun j u hj=>hc _ u (h7 j u hj)⟩
theorem T.rds_nums {w:World} : ∀ (xs:List Int) (es:List Value),T.rds w (xs.map T.num) es↔es=xs.map (Value.int .i64)
 | [],es=>by simp[T.rds]
 |x :: xs,es=>by
  simp only[List.map_cons,T.rds,T.rds_nums xs,T.rd]
  constructor
  ·rintro⟨c1,c2,rfl,rfl,rfl⟩;rfl
  ·rintro rfl;exact⟨_,_,rfl,rfl,rfl⟩
theorem T.ows_nums {w:World} : ∀ (xs:List Int) (F:List Nat) (es:List Value),T.ows w (xs.map T.num) F es↔F= []∧es=xs.map (Value.int .i64)
 | [],F,es=>by simp[T.ows]
 |x :: xs,F,es=>by
  simp only[List.map_cons,T.ows,T.ows_nums xs,T.ow]
  constructor
  ·rintro⟨F1,F2,c1,c2,rfl,rfl,⟨rfl,rfl⟩,rfl,rfl⟩;exact⟨rfl,rfl⟩
  ·rintro⟨rfl,rfl⟩;exact⟨[],[],_,_,rfl,rfl,⟨rfl,rfl⟩,rfl,rfl⟩
abbrev T.ints (E:TypeId) (xs:List Int):T:= .sl E 1 (xs.map T.num)
theorem T.xB {w:World} {E:TypeId} {xs:List Int} {v:Value} :T.rd w (T.ints E xs) [v]↔RdI w v xs:=by
 simp only[T.ints,T.rd,T.rds_nums,List.length_map]
 constructor
 ·rintro⟨v',es,hv,_,h1,rfl⟩
  obtain rfl:v=v':=by simpa using hv
  exact h1
 ·intro h
  exact⟨v,_,rfl,by simp[T.wide],h,rfl⟩
theorem T.ow_ints {w:World} {E:TypeId} {xs:List Int} {v:Value} {F:List Nat} :T.ow w (T.ints E xs) F [v]↔OwI E w 0 v xs∧F=v.ownBlock.toList:=by
 simp only[T.ints,T.ow,T.ows_nums,List.length_map]
 constructor
 ·rintro⟨v',es,G,hv,rfl,_,h1,rfl,rfl⟩
  obtain rfl:v=v':=by simpa using hv
  exact⟨h1,by simp⟩
 ·rintro⟨h,rfl⟩
  exact⟨v,_,[],rfl,by simp,by simp[T.wide],h,rfl,rfl⟩
theorem T.yM {w w':World} {x:T} {cs:List Value} (h:T.rd w x cs) (hb:Below w.heap.size w w'):T.rd w' x cs:=T.rd_keep hb.size hb.block x cs h
theorem T.ow_below {w w':World} {x:T} {F:List Nat} {cs:List Value} {B:Nat} (h:T.ow w x F cs) (hb:Below B w w') (hF: ∀ b ∈ F,b<B):T.ow w' x F cs:=T.ow_keep x F cs (fun b hb'=>hb.block b (hF b hb')) h
theorem T.ow_all {w w':World} {x:T} {F:List Nat} {cs:List Value} (h:T.ow w x F cs) (hb:Below w.heap.size w w'):T.ow w' x F cs:=T.ow_below h hb (T.ow_lt x F cs h)
theorem T.ows_all {w w':World} {xs:List T} {F:List Nat} {cs:List Value} (h:T.ows w xs F cs) (hb:Below w.heap.size w w'):T.ows w' xs F cs:=T.ows_keep xs F cs (fun b hb'=>hb.block b (T.ows_lt xs F cs h b hb')) h
structure Trn (F:List Nat) (w w':World):Prop where
 os:w'.os=w.os
 tape:w'.tape=w.tape
 output:w'.output=w.output
 size:w.heap.size≤w'.heap.size
 block: ∀ k,k<w.heap.size→k ∉ F→w'.heap[k]?=w.heap[k]?
end
section
open Go.RowKit
section
variable {w w':World} {n:Int} {s:ByteArray} {E:TypeId} {sz:Nat} {xs ys:List T} {cs:List Value} {F:List Nat}
theorem T.rds_nil:T.rds w [] cs↔cs= []:=by simp only[T.rds]
theorem T.rds_num:T.rds w (.num n :: xs) cs↔ ∃ cs',cs= .int .i64 n :: cs'∧T.rds w xs cs':=by
 simp only[T.rds,T.rd]
 constructor
 ·rintro⟨c1,c2,rfl,rfl,h⟩;exact⟨c2,rfl,h⟩
 ·rintro⟨c2,rfl,h⟩;exact⟨_,c2,rfl,rfl,h⟩
theorem T.rds_str:T.rds w (.str s :: xs) cs↔ ∃ cs',cs= .string s :: cs'∧T.rds w xs cs':=by
 simp only[T.rds,T.rd]
 constructor
 ·rintro⟨c1,c2,rfl,rfl,h⟩;exact⟨c2,rfl,h⟩
 ·rintro⟨c2,rfl,h⟩;exact⟨_,c2,rfl,rfl,h⟩
theorem T.rd_one {c:List Value} (h:T.rd w (.sl E sz ys) c): ∃ v,c= [v]:=by
 simp only[T.rd] at h;obtain⟨v,_,rfl,_⟩:=h;exact⟨v,rfl⟩
theorem T.rds_sl:T.rds w (.sl E sz ys :: xs) cs↔ ∃ v cs',cs=v :: cs'∧T.rd w (.sl E sz ys) [v]∧T.rds w xs cs':=by
 constructor
 ·intro h
  simp only[T.rds] at h;obtain⟨c1,c2,rfl,h1,h2⟩:=h;obtain⟨v,rfl⟩:=T.rd_one h1;exact⟨v,c2,rfl,h1,h2⟩
 ·rintro⟨v,c2,rfl,h1,h2⟩
  simp only[T.rds];exact⟨[v],c2,rfl,h1,h2⟩
theorem T.ows_nil:T.ows w [] F cs↔F= []∧cs= []:=by simp only[T.ows]
theorem T.ows_num:T.ows w (.num n :: xs) F cs↔ ∃ cs',cs= .int .i64 n :: cs'∧T.ows w xs F cs':=by
 simp only[T.ows,T.ow]
 constructor
 ·rintro⟨F1,F2,c1,c2,rfl,rfl,⟨rfl,rfl⟩,h⟩;exact⟨c2,rfl,h⟩
 ·rintro⟨c2,rfl,h⟩;exact⟨[],F,_,c2,rfl,rfl,⟨rfl,rfl⟩,h⟩
theorem T.ows_str:T.ows w (.str s :: xs) F cs↔ ∃ cs',cs= .string s :: cs'∧T.ows w xs F cs':=by
 simp only[T.ows,T.ow]
 constructor
 ·rintro⟨F1,F2,c1,c2,rfl,rfl,⟨rfl,rfl⟩,h⟩;exact⟨c2,rfl,h⟩
 ·rintro⟨c2,rfl,h⟩;exact⟨[],F,_,c2,rfl,rfl,⟨rfl,rfl⟩,h⟩
theorem T.ows_sl:T.ows w (.sl E sz ys :: xs) F cs↔ ∃ v cs' F1 F2,F=F1++F2∧cs=v :: cs'∧T.ow w (.sl E sz ys) F1 [v]∧T.ows w xs F2 cs':=by
 constructor
 ·intro h
  simp only[T.ows] at h;obtain⟨F1,F2,c1,c2,rfl,rfl,h1,h2⟩:=h;obtain⟨v,rfl⟩:=T.rd_one (T.ow_rd _ _ _ h1);exact⟨v,c2,F1,F2,rfl,rfl,h1,h2⟩
 ·rintro⟨v,c2,F1,F2,rfl,rfl,h1,h2⟩
  simp only[T.ows];exact⟨F1,F2,[v],c2,rfl,rfl,h1,h2⟩
theorem T.c_rn (h:T.rds w xs cs):T.rds w (.num n :: xs) (.int .i64 n :: cs):=T.rds_num.2 ⟨_,rfl,h⟩
theorem T.c_rs (h:T.rds w xs cs):T.rds w (.str s :: xs) (.string s :: cs):=T.rds_str.2 ⟨_,rfl,h⟩
theorem T.c_rl {v:Value} (h:T.rd w (.sl E sz ys) [v]) (h2:T.rds w xs cs):T.rds w (.sl E sz ys :: xs) (v :: cs):=T.rds_sl.2 ⟨_,_,rfl,h,h2⟩
theorem T.c_re:T.rds w [] []:=T.rds_nil.2 rfl
theorem T.c_on (h:T.ows w xs F cs):T.ows w (.num n :: xs) F (.int .i64 n :: cs):=T.ows_num.2 ⟨_,rfl,h⟩
theorem T.c_os (h:T.ows w xs F cs):T.ows w (.str s :: xs) F (.string s :: cs):=T.ows_str.2 ⟨_,rfl,h⟩
theorem T.c_ol {v:Value} {F1:List Nat} (h:T.ow w (.sl E sz ys) F1 [v]) (h2:T.ows w xs F cs):T.ows w (.sl E sz ys :: xs) (F1++F) (v :: cs):=T.ows_sl.2 ⟨_,_,_,_,rfl,rfl,h,h2⟩
theorem T.c_oe:T.ows w [] [] []:=T.ows_nil.2 ⟨rfl,rfl⟩
theorem T.ow_far {x:T} {g:Nat} (h:T.ow w x F cs) (hg:g ∉ F) (o:Nat) (u:Value):T.ow (w.setCell ⟨g,o,none⟩ u) x F cs:=
 T.ow_keep x F cs (fun b hb=>Below.heap_setCell w _ u b (fun e=>hg (by rw[←show b=g from e];exact hb))) h
theorem T.yX {g:Nat} (h:T.ows w xs F cs) (hg:g ∉ F) (o:Nat) (u:Value):T.ows (w.setCell ⟨g,o,none⟩ u) xs F cs:=
 T.ows_keep xs F cs (fun b hb=>Below.heap_setCell w _ u b (fun e=>hg (by rw[←show b=g from e];exact hb))) h
end
theorem nodup_lo {F1 F2:List Nat} {n:Nat} (h1:F1.Nodup) (h2:F2.Nodup) (a: ∀ b ∈ F1,b<n) (c: ∀ b ∈ F2,n≤b):(F1++F2).Nodup:=by
 rw[List.nodup_append];exact⟨h1,h2,fun x hx y hy e=>by have:=a x hx;have:=c y hy;omega⟩
structure Nw (w w':World) (xs:List T) (F:List Nat) (cs:List Value):Prop where
 ows:T.ows w' xs F cs
 nodup:F.Nodup
 lo: ∀ b ∈ F,w.heap.size≤b
 below:Below w.heap.size w w'
theorem Nw.lt {w w':World} {xs:List T} {F:List Nat} {cs:List Value} (h:Nw w w' xs F cs): ∀ b ∈ F,b<w'.heap.size:=T.ows_lt _ _ _ h.ows
structure Nv (w w':World) (x:T) (F:List Nat) (v:Value):Prop where
 ow:T.ow w' x F [v]
 nodup:F.Nodup
 lo: ∀ b ∈ F,w.heap.size≤b
 below:Below w.heap.size w w'
theorem Nv.lt {w w':World} {x:T} {F:List Nat} {v:Value} (h:Nv w w' x F v): ∀ b ∈ F,b<w'.heap.size:=T.ow_lt _ _ _ h.ow
theorem Nv.ints {w w':World} {E:TypeId} {xs:List Int} {v:Value} (h:OwI E w' w.heap.size v xs) (hb:Below w.heap.size w w'):Nv w w' (T.ints E xs) v.ownBlock.toList v:=by
 refine⟨T.ow_ints.2 ⟨h.more (Nat.zero_le _),rfl⟩,?_,?_,hb⟩
 ·cases v.ownBlock<;>simp
 ·intro b hb;exact(h.lt b (by simpa using hb)).1
def I64 (n:Int):Prop:= -9223372036854775808≤n∧n≤9223372036854775807
def smL {α:Type} (p:α→Prop) (xs:List α):Prop:=xs.length≤1048576∧ ∀ x ∈ xs,p x
theorem uHz {α:Type} {p:α→Prop} {xs:List α} {k:Nat} {x:α} (h: ∀ y ∈ xs.take k,p y) (hk:xs[k]?=some x) (hx:p x): ∀ y ∈ xs.take (k+1),p y:=by
 intro y hy;rw[xZ hk] at hy
 rcases List.mem_append.1 hy with hy|hy
 ·exact h y hy
 ·simp at hy;subst hy;exact hx
theorem uIz {α:Type} {p:α→Prop} {xs:List α} (h: ∀ y ∈ xs.take xs.length,p y): ∀ y ∈ xs,p y:=by rwa [List.take_length] at h
end
end Go.Proofs.YtoibekfhepnedaaGreat
