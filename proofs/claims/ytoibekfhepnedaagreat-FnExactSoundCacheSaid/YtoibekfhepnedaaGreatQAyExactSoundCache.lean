/- Growing a slice of data of the call's own, one element at a time. No program is named here. One element of a slice of the call's own turned. No program is named here. copy between slices whose elements take several cells. No program is named here. A slice of the call's own that grows beside other data of its own. No program is named here. Regions that draw their order and end in some operations, each behind all others, that store over cells which the region has loaded. No program is named here. -/
import Derived.Test.YtoibekfhepnedaaGreatQAlExactSoundCache
import Derived.Deep.RegionHeldLaw
import Derived.Laws.CopyOwn
import Derived.Lib.Overlaps
import Derived.Lib.AppendZeros
import Derived.Deep.Quiet
import Derived.StillTail
set_option linter.unusedVariables false
set_option linter.unusedSimpArgs false

section
namespace Go.Proofs.YtoibekfhepnedaaGreat
open Go.RowKit
/-- Data in blocks of its own, from B on. -/
structure Own (B:Nat) (w:World) (x:T) (F:List Nat) (v:Value):Prop where
 ow:T.ow w x F [v]
 nodup:F.Nodup
 lo: ∀ b ∈ F,B≤b
mutual
theorem T.rd_cell {w:World} : ∀ (x:T) (cs:List Value),T.rd w x cs→ ∀ u ∈ cs,u.oneCell'=true
 | .num _,_,h=>by simp only[T.rd] at h;subst h;simp[Value.oneCell']
 | .str _,_,h=>by simp only[T.rd] at h;subst h;simp[Value.oneCell']
 | .sl _ _ _,_,h=>by
  simp only[T.rd] at h
  obtain⟨v,es,rfl,_,hr,_⟩:=h
  obtain⟨_,A,cap,rfl,_⟩:=hr
  simp[Value.oneCell']
 | .st fs,cs,h=>by simp only[T.rd] at h;exact T.rds_cell fs cs h
theorem T.rds_cell {w:World} : ∀ (xs:List T) (cs:List Value),T.rds w xs cs→ ∀ u ∈ cs,u.oneCell'=true
 | [],_,h=>by simp only[T.rds] at h;subst h;simp
 |x :: xs,_,h=>by
  simp only[T.rds] at h
  obtain⟨c1,c2,rfl,h1,h2⟩:=h
  intro u hu
  rcases List.mem_append.1 hu with hu|hu
  ·exact T.rd_cell x c1 h1 u hu
  ·exact T.rds_cell xs c2 h2 u hu
end
theorem Own.lt {B:Nat} {w:World} {x:T} {F:List Nat} {v:Value} (h:Own B w x F v): ∀ b ∈ F,b<w.heap.size:=T.ow_lt _ _ _ h.ow
theorem Own.all {B:Nat} {w w':World} {x:T} {F:List Nat} {v:Value} (h:Own B w x F v) (hb:Below w.heap.size w w'):Own B w' x F v:=⟨T.ow_all h.ow hb,h.nodup,h.lo⟩
theorem Own.trn {B:Nat} {w w':World} {x:T} {F G:List Nat} {v:Value} (h:Own B w x F v) (k:Trn G w w') (hd: ∀ b ∈ F,b ∉ G):Own B w' x F v:=⟨T.ow_trn h.ow k hd,h.nodup,h.lo⟩
theorem Own.more {B B':Nat} {w:World} {x:T} {F:List Nat} {v:Value} (h:Own B w x F v) (hb:B'≤B):Own B' w x F v:=⟨h.ow,h.nodup,fun b m=>Nat.le_trans hb (h.lo b m)⟩
theorem Own.nil (B:Nat) (w:World) (E:TypeId) (sz:Nat):Own B w (.sl E sz []) [] (.slice none 0 0):=by
 refine⟨?_,List.nodup_nil,by simp⟩
 simp only[T.ow]
 exact⟨_,[],[],rfl,by simp[Value.ownBlock],by simp,World.ownsRow_nil w 0 E sz,by simp[T.ows]⟩
theorem Own.app {B:Nat} {w:World} {E:TypeId} {sz:Nat} {xs:List T} {x:T} {F Fx:List Nat} {v:Value} {news:List Value} (h:Own B w (.sl E sz xs) F v) (hx:T.ow w x Fx news) (nx:Fx.Nodup) (lx: ∀ b ∈ Fx,B≤b)
  (hd: ∀ b ∈ F,b ∉ Fx) (hw:T.wide x=sz) (hB:B≤w.heap.size):
  ∃ es,w.ownsRow 0 E sz v xs.length es∧ ∀ v' w',w'.ownsRow 0 E sz v' (xs.length+1) (es++news)→w.grownBy w' v.ownBlock→(∀ k,v'.ownBlock=some k→v.ownBlock=some k∨w.heap.size≤k)→
   ∃ F',Own B w' (.sl E sz (xs++ [x])) F' v'∧ ∀ b ∈ F',b ∈ F∨b ∈ Fx∨w.heap.size≤b:=by
 obtain⟨ho,hn,hlo⟩:=h
 simp only[T.ow] at ho
 obtain⟨v0,es,G,e,rfl,hwd,hrow,hows⟩:=ho
 injection e with e _
 subst e
 refine⟨es,hrow,fun v' w' hrow' hg hv=>⟨v'.ownBlock.toList++(G++Fx),⟨?_,?_,?_⟩,?_⟩⟩
 ·simp only[T.ow]
  refine⟨v',es++news,G++Fx,rfl,rfl,?_,by simpa using hrow',?_⟩
  ·intro y hy
   rcases List.mem_append.1 hy with hy|hy
   ·exact hwd y hy
   ·simp at hy;subst hy;exact hw
  ·refine T.ows_snoc (T.ows_keep _ _ _ (fun b hb=>?_) hows) (T.ow_keep _ _ _ (fun b hb=>?_) hx)
   ·exact hg.block b (T.ows_lt _ _ _ hows b hb) (fun e=>nodup_dj hn b (by rw[←e];simp) hb)
   ·exact hg.block b (T.ow_lt _ _ _ hx b hb) (fun e=>hd b (List.mem_append.2 (.inl (by rw[←e];simp))) hb)
 ·rw[List.nodup_append]
  refine⟨by cases v'.ownBlock<;>simp,?_,?_⟩
  ·rw[List.nodup_append]
   exact⟨yO hn,nx,fun a ha b hb e=>hd a (List.mem_append.2 (.inr ha)) (e ▸ hb)⟩
  ·intro a ha b hb e
   subst e
   have ha:v'.ownBlock=some a:=by simpa using ha
   rcases hv a ha with k|k
   ·rcases List.mem_append.1 hb with hb|hb
    ·exact nodup_dj hn a (by rw[k];simp) hb
    ·exact hd a (List.mem_append.2 (.inl (by rw[k];simp))) hb
   ·rcases List.mem_append.1 hb with hb|hb
    ·have:=T.ows_lt _ _ _ hows a hb;omega
    ·have:=T.ow_lt _ _ _ hx a hb;omega
 ·intro b hb
  rcases List.mem_append.1 hb with hb|hb
  ·have hb:v'.ownBlock=some b:=by simpa using hb
   rcases hv b hb with k|k
   ·exact hlo b (List.mem_append.2 (.inl (by rw[k];simp)))
   ·omega
  ·rcases List.mem_append.1 hb with hb|hb
   ·exact hlo b (List.mem_append.2 (.inr hb))
   ·exact lx b hb
 ·intro b hb
  rcases List.mem_append.1 hb with hb|hb
  ·have hb:v'.ownBlock=some b:=by simpa using hb
   rcases hv b hb with k|k
   ·exact .inl (List.mem_append.2 (.inl (by rw[k];simp)))
   ·exact .inr (.inr k)
  ·rcases List.mem_append.1 hb with hb|hb
   ·exact .inl (List.mem_append.2 (.inr hb))
   ·exact .inr (.inl hb)
theorem Own.row {B:Nat} {w:World} {E:TypeId} {sz:Nat} {xs:List T} {F:List Nat} {v:Value} (h:Own B w (.sl E sz xs) F v): ∀ k,v.ownBlock=some k→B≤k:=by
 intro k hk
 obtain⟨ho,hn,hlo⟩:=h
 simp only[T.ow] at ho
 obtain⟨v0,es,G,e,rfl,_⟩:=ho
 injection e with e _
 subst e
 exact hlo k (List.mem_append.2 (.inl (by rw[hk];simp)))
theorem Own.mem {B:Nat} {w:World} {E:TypeId} {sz:Nat} {xs:List T} {F:List Nat} {v:Value} (h:Own B w (.sl E sz xs) F v): ∀ k,v.ownBlock=some k→k ∈ F:=by
 intro k hk
 obtain⟨ho,hn,hlo⟩:=h
 simp only[T.ow] at ho
 obtain⟨v0,es,G,e,rfl,_⟩:=ho
 injection e with e _
 subst e
 exact List.mem_append.2 (.inl (by rw[hk];simp))
theorem Own.born {B:Nat} {w:World} {E:TypeId} {sz:Nat} {v:Value} (h:w.ownsRow B E sz v 0 []):Own B w (.sl E sz []) v.ownBlock.toList v:=by
 refine⟨?_,by cases v.ownBlock<;>simp,fun b hb=>(h.lt b (by simpa using hb)).1⟩
 simp only[T.ow]
 refine⟨v,[],[],rfl,by simp,by simp,?_,by simp[T.ows]⟩
 exact own_more h (Nat.zero_le _)
theorem Own.below {B:Nat} {w w' w0:World} {E:TypeId} {sz:Nat} {xs:List T} {F:List Nat} {v:Value} (h:Own B w (.sl E sz xs) F v) (hb:Below B w0 w) (hB:B≤w.heap.size) (hg:w.grownBy w' v.ownBlock):Below B w0 w':=
 hb.grown hg hB (fun j hj=>h.row j hj)
theorem Bk.rd1 {w:World} {g:Nat} {t:TypeId} {ys:List Value} (h:Bk w g t ys.toArray):Rd w (.slice (some ⟨g,0,none⟩) 1 1) ys.length 1 ys:=
 ⟨by simp,_,1,rfl,Nat.le_refl _,by decide,fun _=>⟨g,0,rfl,h.lt,fun j u hj=>by rw[Nat.zero_add,h.cell j];simpa using hj⟩⟩
section
variable {P:Program}
/-- append of one element, whose cells the call has just laid in a block. -/
theorem app1_T {w:World} {ops:Array Oper} {rest:List Oper} {o:Oper} {a:Act} {Q:Exit→Act→World→Prop} {news:Array Value} (hgd:o.guard=none) (s y:Operand) (t:TypeId)
  (ho:o.op= .call { callee:= .builtin .append,args:= #[s,y],argTypes:= #[t,t] }) (B:Nat) (e:TypeId) (z:Value) (size bytes:Nat) (ht:P.underlying t=some (.slice e))
  (hinfo:(P.info? e).map (fun i=>(i.zero,i.size,i.bytes))=some (some z,size,bytes)) (hzs:z.cells.size=size) (hsz:0<size)
  {v:Value} {xs:List T} {x:T} {F Fx:List Nat} (hs:a.eval s=v) (hown:Own B w (.sl e size xs) F v) (hx:T.ow w x Fx news.toList) (nx:Fx.Nodup) (lx: ∀ b ∈ Fx,B≤b) (hd: ∀ b ∈ F,b ∉ Fx) (hw:T.wide x=size)
  (hy:a.eval y= .slice (some ⟨w.heap.size,0,none⟩) 1 1) (hbytes:(xs.length+1) * bytes≤140737488355328) (h63:xs.length+1≤9223372036854775807) (hB:B≤w.heap.size)
  (h: ∀ v' w' F',Own B w' (.sl e size (xs++ [x])) F' v'→w.grownBy w' v.ownBlock→(∀ b ∈ F',b ∈ F∨b ∈ Fx∨w.heap.size≤b)→wpList P ops Q rest (a.put o.dst v') w'):
  wpList P ops Q (o :: rest) a (w.alloc (.cells news e)):=by
 obtain⟨es,hrow,hk⟩:=hown.app hx nx lx hd hw hB
 refine app_one hgd s y t ho 0 e z size bytes ht hinfo hzs hsz v xs.length es hs hrow hy ?_ ?_ hbytes h63 (Nat.zero_le _) ?_
 ·have:=T.rd_len x _ (T.ow_rd _ _ _ hx)
  rw[hw] at this
  simpa using this
 ·exact T.rd_cell x _ (T.ow_rd _ _ _ hx)
 ·intro v' w' h1 h2 h3
  obtain⟨F',k1,k2⟩:=hk v' w' h1 h2 h3
  exact h v' w' F' k1 h2 k2
end
/-- append of all elements of a slice that reads, at a step of a region that draws its order. -/
theorem step_manyT {P:Program} {w:World} {ops:Array Oper} {o:Oper} {a:Act} {K:Act→World→Prop} {Q:Exit→Act→World→Prop} {E:Prop} (hgd:o.guard=none) (s x:Operand) (t:TypeId)
  (ho:o.op= .call { callee:= .builtin .append,args:= #[s,x],argTypes:= #[t,t] })
  (base:Nat) (e:TypeId) (z:Value) (size bytes:Nat) (ht:P.underlying t=some (.slice e)) (hinfo:(P.info? e).map (fun i=>(i.zero,i.size,i.bytes))=some (some z,size,bytes))
  (hzs:z.cells.size=size) (hsz:0<size)
  (v:Value) (n:Nat) (xs:List Value) (hs:a.eval s=v) (hown:w.ownsRow base e size v n xs)
  (y:Value) (m:Nat) (ys:List Value) (hx:a.eval x=y) (hr:Rd w y size m ys) (h1: ∀ u ∈ ys,u.oneCell'=true)
  (hbytes:(n+m) * bytes≤140737488355328) (h63:n+m≤maxLen) (hbase:base≤w.heap.size)
  (h: ∀ v' w',w'.ownsRow base e size v' (n+m) (xs++ys)→w.grownBy w' v.ownBlock→(∀ k,v'.ownBlock=some k→v.ownBlock=some k∨w.heap.size≤k)→K (a.put o.dst v') w'):
  if Region.wanted o (yielded ops a.tmps)=true then Oper.wp P o a w K Q else E:=by
 have hw:Region.wanted o (yielded ops a.tmps)=true:=by simp[Region.wanted,hgd]
 rw[if_pos hw]
 obtain⟨i0,hi,hz0,hz1,hz2⟩:=info_parts hinfo
 obtain⟨hl,A,cap,rfl,hc1,hc2,hcell⟩:=hr
 rcases Nat.eq_zero_or_pos m with hm|hm
 ·subst hm
  have hn:ys= []:=List.eq_nil_of_length_eq_zero (by simpa using hl)
  subst hn
  have hrun:(Builtin.append_ #[t,t] o.type #[v,.slice A 0 cap]).run P w= .ok v w:=by
   rcases hown.2 with ⟨rfl,rfl⟩|⟨g,cap',cur,rfl,_,_,hnc,_⟩
   ·cases A<;>simp[Builtin.append_,run_underlying ht,sizeOf,typeInfo,hi,Builtin.lenOf,Builtin.firstCells,loadCells,loadCellsFrom]
   ·cases A<;>simp[Builtin.append_,run_underlying ht,sizeOf,typeInfo,hi,Builtin.lenOf,Builtin.firstCells,hnc,storeCells,loadCells,loadCellsFrom]
  unfold Oper.wp execOp
  simp only[ho,resolve,invoke,builtin,Sem.run_bind,Sem.run_pure,Result.andThen_ok,List.map_toArray,List.map_cons,List.map_nil,hs,hx,hrun]
  exact h v w (by simpa using hown) (World.grownBy.refl _ _) fun k hk=> .inl hk
 ·obtain⟨b,off,rfl,hb,hcc⟩:=hcell hm
  refine wp_append_lies w s x t ho base e i0 z size bytes ht hi hz0 hz1 hz2 hzs hsz v n xs hs hown ⟨b,off,none⟩ m cap ys hx hl ?_ h1 hm h63 hbytes hbase _ rfl ?_
  ·intro j u hu
   rw[show (⟨b,off,none⟩:Addr).add j=⟨b,off+j,none⟩ by unfold Addr.add;split<;>simp_all]
   exact hcc j u hu
  ·intro g cap' w' h2 h3 h4 _
   refine h _ w' h2 h3 fun k hk=>?_
   injection hk with hk
   subst hk
   rcases h4 with h4|h4
   ·exact .inl h4
   ·exact .inr (by rw[h4];exact Nat.le_refl _)
/-- append of one element at a step of a region that draws its order. -/
theorem step1_T {P:Program} {w:World} {ops:Array Oper} {o:Oper} {a:Act} {K:Act→World→Prop} {Q:Exit→Act→World→Prop} {X:Prop} (hgd:o.guard=none) (s y:Operand) (t:TypeId)
  (ho:o.op= .call { callee:= .builtin .append,args:= #[s,y],argTypes:= #[t,t] }) (B:Nat) (e:TypeId) (z:Value) (size bytes:Nat) (ht:P.underlying t=some (.slice e))
  (hinfo:(P.info? e).map (fun i=>(i.zero,i.size,i.bytes))=some (some z,size,bytes)) (hzs:z.cells.size=size) (hsz:0<size)
  {v:Value} {xs:List T} {x:T} {F Fx:List Nat} {news:List Value} {g:Nat} (hs:a.eval s=v) (hown:Own B w (.sl e size xs) F v) (hy:a.eval y= .slice (some ⟨g,0,none⟩) 1 1) (hk:Bk w g e news.toArray)
  (hx:T.ow w x Fx news) (nx:Fx.Nodup) (lx: ∀ b ∈ Fx,B≤b) (hd: ∀ b ∈ F,b ∉ Fx) (hw:T.wide x=size)
  (hbytes:(xs.length+1) * bytes≤140737488355328) (h63:xs.length+1≤maxLen) (hB:B≤w.heap.size)
  (h: ∀ v' w' F',Own B w' (.sl e size (xs++ [x])) F' v'→w.grownBy w' v.ownBlock→(∀ b ∈ F',b ∈ F∨b ∈ Fx∨w.heap.size≤b)→K (a.put o.dst v') w'):
  if Region.wanted o (yielded ops a.tmps)=true then Oper.wp P o a w K Q else X:=by
 obtain⟨es,hrow,hk2⟩:=hown.app hx nx lx hd hw hB
 have hl:news.length=size:=by rw[←hw];exact T.rd_len x _ (T.ow_rd _ _ _ hx)
 refine step_manyT hgd s y t ho 0 e z size bytes ht hinfo hzs hsz v xs.length es hs hrow _ 1 news hy (by rw[←hl];exact hk.rd1) (T.rd_cell x _ (T.ow_rd _ _ _ hx)) hbytes h63 (Nat.zero_le _) ?_
 intro v' w' h1 h2 h3
 obtain⟨F',k1,k2⟩:=hk2 v' w' h1 h2 h3
 exact h v' w' F' k1 h2 k2
end Go.Proofs.YtoibekfhepnedaaGreat
end
section
namespace Go.Proofs.YtoibekfhepnedaaGreat
open Go.RowKit
end Go.Proofs.YtoibekfhepnedaaGreat
end
section
namespace Go.Proofs.YtoibekfhepnedaaGreat
open Go.RowKit
end Go.Proofs.YtoibekfhepnedaaGreat
end
section
namespace Go.Proofs.YtoibekfhepnedaaGreat
open Go.RowKit
section
variable {B:Nat} {w w':World} {E E':TypeId} {sz sz':Nat} {xs:List T} {x:T} {F F' Fx FR:List Nat} {v v':Value} {os:List T} {cr:List Value}
theorem Bk.drew {g:Nat} {t:TypeId} {cs:Array Value} (h:Bk w g t cs):Bk w.drew g t cs:=h
end
end Go.Proofs.YtoibekfhepnedaaGreat
end
section
namespace Go.Proofs.YtoibekfhepnedaaGreat
open Go.RowKit
section
variable {P:Program} {ops:Array Oper} {Q:Exit→Act→World→Prop} {md:Region.Mode} {S:World→Prop} {n:List Nat}
/-- Whatever order is picked from here on; behind every operation but number n, which waits for all others, S holds. -/
def wpAnyN (P:Program) (md:Region.Mode) (ops:Array Oper) (Q:Exit→Act→World→Prop) (S:World→Prop) (n:List Nat):Nat→Array Bool→Act→World→Prop
 |0,listed,a,w=>Region.ready md ops listed= []∧Q .normal a w
 |fuel+1,listed,a,w=>
  (Region.ready md ops listed= []→Q .normal a w)∧
  ∀ i ∈ Region.ready md ops listed,wpOp P ops Q i (fun a' w'=>(i ∈ n∨S w')∧wpAnyN P md ops Q S n fuel (listed.setIfInBounds i true) a' w') a w
theorem wpAny_of_N: ∀ (fuel:Nat) (listed:Array Bool) (a:Act) (w:World),wpAnyN P md ops Q S n fuel listed a w→wpAny P md ops Q fuel listed a w
 |0,_,_,_,h=>h
 |fuel+1,_,_,_,h=>⟨h.1,fun i hi=>wpOp_mono (fun a' w' h'=>wpAny_of_N fuel _ a' w' h'.2) (h.2 i hi)⟩
/-- What is listed has all that it waits for listed. -/
def closedB (md:Region.Mode) (ops:Array Oper) (listed:Array Bool):Bool:=(List.range ops.size).all fun j=> !(listed.getD j true) || ((ops[j]?).map fun o=>o.after.all fun e=> !(Region.binds md e) || listed.getD e.on true).getD true
def Closed (md:Region.Mode) (ops:Array Oper) (listed:Array Bool):Prop:= ∀ (j:Nat) (o:Oper),ops[j]?=some o→listed.getD j true=true→ ∀ e ∈ o.after,Region.binds md e=true→listed.getD e.on true=true
theorem closed_of {listed:Array Bool} (h:closedB md ops listed=true):Closed md ops listed:=by
 intro j o ho hl e he hb
 unfold closedB at h
 have hj:j<ops.size:=(Array.getElem?_eq_some_iff.1 ho).1
 have h1:=List.all_eq_true.1 h j (List.mem_range.2 hj)
 rw[hl,ho] at h1
 simp only[Bool.not_true,Bool.false_or,Option.map_some,Option.getD_some] at h1
 have h2:=(Array.all_eq_true'.1 h1) e he
 rw[hb] at h2
 simpa using h2
/-- Number m waits for number i, perhaps through others. -/
def waitsT (md:Region.Mode) (ops:Array Oper):Nat→Nat→Nat→Bool
 |0,_,_=>false
 |f+1,m,i=>((ops[m]?).map fun o=>o.after.any fun e=>Region.binds md e && (e.on == i || waitsT md ops f e.on i)).getD false
theorem waitsT_spec {f m i:Nat} (h:waitsT md ops (f+1) m i=true): ∃ o,ops[m]?=some o∧ ∃ e ∈ o.after,Region.binds md e=true∧(e.on=i∨waitsT md ops f e.on i=true):=by
 unfold waitsT at h
 cases ho:ops[m]? with
 |none=>rw[ho] at h;simp at h
 |some o=>
  rw[ho] at h
  simp only[Option.map_some,Option.getD_some] at h
  obtain⟨e,he,h2⟩:=Array.any_eq_true'.1 h
  simp only[Bool.and_eq_true,Bool.or_eq_true,beq_iff_eq] at h2
  exact⟨o,rfl,e,he,h2.1,h2.2⟩
theorem waitsT_mono: ∀ (f m i:Nat),waitsT md ops f m i=true→waitsT md ops (f+1) m i=true
 |0,_,_,h=>by simp[waitsT] at h
 |f+1,m,i,h=>by
  obtain⟨o,ho,e,he,hb,h2⟩:=waitsT_spec h
  unfold waitsT
  rw[ho]
  simp only[Option.map_some,Option.getD_some]
  refine Array.any_eq_true'.2 ⟨e,he,?_⟩
  simp only[Bool.and_eq_true,Bool.or_eq_true,beq_iff_eq]
  exact⟨hb,h2.imp id (fun h3=>waitsT_mono f _ _ h3)⟩
/-- Which of the first k operations wait for number i: reckoned one after the other. -/
def reachL (md:Region.Mode) (ops:Array Oper) (i:Nat):Nat→List Bool
 |0=> []
 |k+1=>reachL md ops i k++ [((ops[k]?).map fun o=>o.after.any fun e=>Region.binds md e && (e.on == i || (reachL md ops i k).getD e.on false)).getD false]
theorem length_reachL {i:Nat} : ∀ k,(reachL md ops i k).length=k
 |0=>rfl
 |k+1=>by simp[reachL,length_reachL k]
theorem reachL_spec {i:Nat} : ∀ (k j:Nat),(reachL md ops i k).getD j false=true→waitsT md ops k j i=true
 |0,j,h=>by simp[reachL] at h
 |k+1,j,h=>by
  unfold reachL at h
  rw[List.getD_eq_getElem?_getD] at h
  by_cases hj:j<k
  ·rw[List.getElem?_append_left (by rw[length_reachL];exact hj),←List.getD_eq_getElem?_getD] at h
   exact waitsT_mono _ _ _ (reachL_spec k j h)
  ·by_cases e:j=k
   ·subst e
    rw[List.getElem?_append_right (by rw[length_reachL];exact Nat.le_refl _),length_reachL,Nat.sub_self] at h
    unfold waitsT
    cases ho:ops[j]? with
    |none=>rw[ho] at h;simp at h
    |some o=>
     rw[ho] at h
     simp only[Option.map_some,Option.getD_some,List.getElem?_cons_zero] at h ⊢
     obtain⟨e,he,h2⟩:=Array.any_eq_true'.1 h
     refine Array.any_eq_true'.2 ⟨e,he,?_⟩
     simp only[Bool.and_eq_true,Bool.or_eq_true,beq_iff_eq] at h2 ⊢
     exact⟨h2.1,h2.2.imp id (fun h3=>reachL_spec j _ h3)⟩
   ·rw[List.getElem?_eq_none (by rw[List.length_append,length_reachL];simp;omega)] at h
    cases h
theorem waitsT_listed {listed:Array Bool} (hc:Closed md ops listed): ∀ (f j i:Nat),listed.getD j true=true→waitsT md ops f j i=true→listed.getD i true=true
 |0,_,_,_,h=>by simp[waitsT] at h
 |f+1,j,i,hl,h=>by
  obtain⟨o,ho,e,he,hb,h2⟩:=waitsT_spec h
  have h3:=hc j o ho hl e he hb
  rcases h2 with rfl|h2
  ·exact h3
  ·exact waitsT_listed hc f e.on i h3 h2
theorem waitsT_ready {listed:Array Bool} (hc:Closed md ops listed) {f j i:Nat} (hr:j ∈ Region.ready md ops listed) (h:waitsT md ops f j i=true):listed.getD i true=true:=by
 cases f with
 |zero=>simp[waitsT] at h
 |succ f=>
  obtain⟨o,ho,e,he,hb,h2⟩:=waitsT_spec h
  obtain⟨_,o',ho',hall⟩:=mem_ready.1 hr
  obtain rfl:o=o':=Option.some.inj (ho.symm.trans ho')
  have h1:=hall e he hb
  have h3:listed.getD e.on true=true:=by
   cases hg:listed.getD e.on true with
   |true=>rfl
   |false=>rw[getD_both hg] at h1;cases h1
  rcases h2 with rfl|h2
  ·exact h3
  ·exact waitsT_listed hc f e.on i h3 h2
theorem Closed.set_ {listed:Array Bool} (hc:Closed md ops listed) {j:Nat} (hr:j ∈ Region.ready md ops listed):Closed md ops (listed.setIfInBounds j true):=by
 have up: ∀ k,listed.getD k true=true→(listed.setIfInBounds j true).getD k true=true:=fun k hk=>by
  by_cases e:j=k
  ·subst e
   cases hq:(listed.setIfInBounds j true).getD j true with
   |true=>rfl
   |false=>
    have hlt:j<listed.size:=Nat.lt_of_not_le fun hn=>by
     rw[Array.getD_eq_getD_getElem?,Array.getElem?_eq_none (by simpa using hn)] at hq
     cases hq
    rw[Array.getD_eq_getD_getElem?,Array.getElem?_setIfInBounds_self_of_lt hlt] at hq
    cases hq
  ·rw[getD_set_ne true e];exact hk
 intro k o ho hl e he hb
 by_cases hk:j=k
 ·subst hk
  obtain⟨_,o',ho',hall⟩:=mem_ready.1 hr
  obtain rfl:o=o':=Option.some.inj (ho.symm.trans ho')
  have h1:=hall e he hb
  refine up _ ?_
  cases hg:listed.getD e.on true with
  |true=>rfl
  |false=>rw[getD_both hg] at h1;cases h1
 ·rw[getD_set_ne true hk] at hl
  exact up _ (hc k o ho hl e he hb)
theorem wpAnyN_first {i:Nat} {oi:Oper} {v:Value} (f:Nat) (hn:(n.all fun m=>waitsT md ops f m i)=true) (hi:ops[i]?=some oi) (hsel: ∀ (j:Nat) (o:Oper) cs b,ops[j]?=some o→o.op≠ .select cs b)
  (hQ: ∀ c a w,Q (.panic c) (a.put oi.dst v) w→Q (.panic c) a w):
  ∀ (fuel:Nat) (listed:Array Bool) (a:Act) (w:World),
   (∀ j oj,ops[j]?=some oj→j≠i→listed.getD j true=false→(∀ e ∈ oj.after,Region.binds md e=true→e.on≠i)→oi.apart ops oj=true)→
   Closed md ops listed→i ∈ Region.ready md ops listed→YieldsIf P ops S oi v a→S w→
   wpAnyN P md ops Q S n fuel (listed.setIfInBounds i true) (a.put oi.dst v) w→wpAnyN P md ops Q S n (fuel+1) listed a w:=by
 have late: ∀ {listed:Array Bool} {j:Nat},Closed md ops listed→i ∈ Region.ready md ops listed→j ∈ Region.ready md ops listed→j ∉ n:=by
  intro listed j hc hr hj e
  have h1:=waitsT_ready hc hj (List.all_eq_true.1 hn j e)
  rw[(mem_ready.1 hr).1] at h1
  cases h1
 intro fuel
 induction fuel with
 |zero=>
  intro listed a w _ hc hr hy hS H
  refine⟨fun h=>(by rw[h] at hr;cases hr),fun j hj=>?_⟩
  by_cases hji:j=i
  ·subst hji;exact hy.wpOp hi hS ⟨.inr hS,H⟩
  ·have:=ready_mono hj hji
   rw[H.1] at this
   cases this
 |succ fuel ih=>
  intro listed a w hfree hc hr hy hS H
  refine⟨fun h=>(by rw[h] at hr;cases hr),fun j hj=>?_⟩
  by_cases hji:j=i
  ·subst hji;exact hy.wpOp hi hS ⟨.inr hS,H⟩
  ·have h1:=H.2 j (ready_mono hj hji)
   obtain⟨hjun,oj,hoj,hall⟩:=mem_ready.1 hj
   have hun:=(mem_ready.1 hr).1
   have hnot: ∀ e ∈ oj.after,Region.binds md e=true→e.on≠i:=fun e he hb heq=>by
    have h1:=hall e he hb
    rw[heq,getD_both hun] at h1
    cases h1
   have h2:=wpOp_putIf hoj (hfree j oj hoj hji hjun hnot) (fun cs b=>hsel i oi cs b hi) (fun cs b=>hsel j oj cs b hoj) hQ hy h1
   have hfree': ∀ k ok,ops[k]?=some ok→k≠i→(listed.setIfInBounds j true).getD k true=false→
     (∀ e ∈ ok.after,Region.binds md e=true→e.on≠i)→oi.apart ops ok=true:=fun k ok hk hki hun hno=>by
    refine hfree k ok hk hki ?_ hno
    by_cases hjk:j=k
    ·subst hjk;exact hjun
    ·rw[getD_set_ne true hjk] at hun;exact hun
   have hjn:=late hc hr hj
   refine wpOp_mono (fun a' w' h3=>?_) h2
   have hS':S w':=h3.2.1.resolve_left hjn
   refine⟨.inr hS',ih (listed.setIfInBounds j true) a' w' hfree' (hc.set_ hj) (ready_mono hr (Ne.symm hji)) h3.1 hS' ?_⟩
   rw[Array.setIfInBounds_comm _ _ hji]
   exact h3.2.2
/-- Take number i first. -/
theorem wpAnyN_take {i:Nat} {oi:Oper} {v:Value} {fuel:Nat} {listed:Array Bool} {a:Act} {w:World} (f:Nat) (hn:(n.all fun m=>waitsT md ops f m i)=true) (hcl:closedB md ops listed=true) (hi:ops[i]?=some oi)
  (hs:Region.noSelect ops=true) (hf:Region.free md ops listed i=true) (hr:(Region.ready md ops listed).contains i=true)
  (hQ: ∀ c a w,Q (.panic c) (a.put oi.dst v) w→Q (.panic c) a w) (hS:S w) (hw:Region.wanted oi (yielded ops a.tmps)=true) (hy: ∀ w,S w→(execOp a.eval oi).run P w= .ok (.value v) w)
  (h:wpAnyN P md ops Q S n fuel (listed.setIfInBounds i true) (a.put oi.dst v) w):wpAnyN P md ops Q S n (fuel+1) listed a w:=
 wpAnyN_first f hn hi (Region.noSelect_spec hs) hQ fuel listed a w (Region.free_spec hi hf) (closed_of hcl) (by simpa using hr) (.inl ⟨hw,hy⟩) hS h
/-- Take number i first (the others' waiting is reckoned one after the other). -/
theorem wpAnyN_takeL {i:Nat} {oi:Oper} {v:Value} {fuel:Nat} {listed:Array Bool} {a:Act} {w:World} (hn:(n.all fun m=>(reachL md ops i ops.size).getD m false)=true) (hcl:closedB md ops listed=true) (hi:ops[i]?=some oi)
  (hs:Region.noSelect ops=true) (hf:Region.free md ops listed i=true) (hr:(Region.ready md ops listed).contains i=true)
  (hQ: ∀ c a w,Q (.panic c) (a.put oi.dst v) w→Q (.panic c) a w) (hS:S w) (hw:Region.wanted oi (yielded ops a.tmps)=true) (hy: ∀ w,S w→(execOp a.eval oi).run P w= .ok (.value v) w)
  (h:wpAnyN P md ops Q S n fuel (listed.setIfInBounds i true) (a.put oi.dst v) w):wpAnyN P md ops Q S n (fuel+1) listed a w:=
 wpAnyN_take ops.size (List.all_eq_true.2 fun m hm=>reachL_spec _ _ (List.all_eq_true.1 hn m hm)) hcl hi hs hf hr hQ hS hw hy h
/-- All has come up. -/
theorem wpAnyN_end {fuel:Nat} {listed:Array Bool} {a:Act} {w:World} (hr:Region.ready md ops listed= []) (h:Q .normal a w):wpAnyN P md ops Q S n fuel listed a w:=by
 cases fuel with
 |zero=>exact⟨hr,h⟩
 |succ f=>exact⟨fun _=>h,by rw[hr];simp⟩
/-- Number i alone may come up. -/
theorem wpAnyN_one {i:Nat} {o:Oper} {fuel:Nat} {listed:Array Bool} {a:Act} {w:World} (hr:Region.ready md ops listed= [i]) (ho:ops[i]?=some o)
  (h: ∀ K':Act→World→Prop,Shut (∀ a w,S w→(S w→wpAnyN P md ops Q S n fuel (listed.setIfInBounds i true) a w)→K' a w)→if Region.wanted o (yielded ops a.tmps)=true then Oper.wp P o a w K' Q else K' (a.put o.dst undef) w):
  wpAnyN P md ops Q S n (fuel+1) listed a w:=
 ⟨fun h0=>(by rw[hr] at h0;cases h0),fun j hj=>by
  rw[hr,List.mem_singleton] at hj
  subst hj
  exact wpOp_step ho (fun K' hK=>h K' (fun a w hS hW=>hK a w ⟨.inr hS,hW hS⟩))⟩
/-- The beginning: S is shown of the world behind the draw. -/
theorem wp_region_N {id:Nat} {a:Act} {w:World} (S:World→Prop) (n:List Nat) (hm:P.follows .mixedOrders=true) (hS:S w.drew)
  (h:S w.drew→wpAnyN P .any ops Q S n ops.size (Array.replicate ops.size false) a w.drew):(Code.region id ops true).wp P Q a w:=
 wp_region_any hm (wpAny_of_N _ _ _ _ (h hS))
end
/-- Take number i first (few words). -/
theorem tN {P:Program} {md:Region.Mode} {ops:Array Oper} {Q:Exit→Act→World→Prop} {S:World→Prop} {n:List Nat} (i:Nat) {oi:Oper} {v:Value} {fuel:Nat} {listed:Array Bool} {a b:Act} {w:World} (hS:S w)
  (h:wpAnyN P md ops Q S n fuel (listed.setIfInBounds i true) b w)
  (hi:ops[i]?=some oi:=by rfl)
  (hc:((n.all fun m=>(reachL md ops i ops.size).getD m false) && closedB md ops listed && Region.noSelect ops && Region.free md ops listed i && (Region.ready md ops listed).contains i)=true:=by kernel_rfl)
  (hQ: ∀ c a w,Q (.panic c) (a.put oi.dst v) w→Q (.panic c) a w:=by exact fun _ _ _ h=>h)
  (hw:Region.wanted oi (yielded ops a.tmps)=true:=by rfl)
  (hy: ∀ w,S w→(execOp a.eval oi).run P w= .ok (.value v) w:=by(intro w hSw;(try dsimp only at hSw);first|(go_simp;done)|(go_simp;with_reducible rfl)))
  (hb:a.put oi.dst v=b:=by(simp only[Act.put,List.setIfInBounds_toArray,List.set_cons_zero,List.set_cons_succ];try with_reducible rfl)):wpAnyN P md ops Q S n (fuel+1) listed a w:=by
 subst hb
 simp only[Bool.and_eq_true] at hc
 obtain⟨⟨⟨⟨h1,h2⟩,h3⟩,h4⟩,h5⟩:=hc
 exact wpAnyN_takeL h1 h2 hi h3 h4 h5 hQ hS hw hy h
end Go.Proofs.YtoibekfhepnedaaGreat
end
