/- Growing a slice of data of the call's own, one element at a time. No program is named here. One element of a slice of the call's own turned. No program is named here. copy between slices whose elements take several cells. No program is named here. A slice of the call's own that grows beside other data of its own. No program is named here. The session after an edit: plain cases; one field of own data replaced. -/
import Derived.Test.YteiflbhcehajkaaGreatQAhExactEditCache
import Derived.Deep.RegionHeldLaw
import Derived.Laws.CopyOwn
import Derived.Lib.Overlaps
import Derived.Lib.AppendZeros
import Derived.Test.YteiflbhcehajkaaGreatQAcExactEditCache
set_option linter.unusedVariables false
set_option linter.unusedSimpArgs false

section
namespace Go.Proofs.YteiflbhcehajkaaGreat
open Go.RowKit
/-- Data in blocks of its own, from B on. -/
structure Own (B:Nat) (w:World) (x:T) (F:List Nat) (v:Value):Prop where
 ow:T.ow w x F [v]
 nodup:F.Nodup
 lo: ∀ b ∈ F,B≤b
mutual
theorem T.rd_cell {w:World} : ∀ (x:T) (cs:List Value),T.rd w x cs→ ∀ u ∈ cs,u.oneCell'=true
 | .num _,_,h=>by simp only[T.rd] at h;subst h;simp[Value.oneCell']
 | .str _,_,h=>by simp only[T.rd] at h;subst h;simp[Value.oneCell']
 | .sl _ _ _,_,h=>by
  simp only[T.rd] at h
  obtain⟨v,es,rfl,_,hr,_⟩:=h
  obtain⟨_,A,cap,rfl,_⟩:=hr
  simp[Value.oneCell']
 | .st fs,cs,h=>by simp only[T.rd] at h;exact T.rds_cell fs cs h
theorem T.rds_cell {w:World} : ∀ (xs:List T) (cs:List Value),T.rds w xs cs→ ∀ u ∈ cs,u.oneCell'=true
 | [],_,h=>by simp only[T.rds] at h;subst h;simp
 |x :: xs,_,h=>by
  simp only[T.rds] at h
  obtain⟨c1,c2,rfl,h1,h2⟩:=h
  intro u hu
  rcases List.mem_append.1 hu with hu|hu
  ·exact T.rd_cell x c1 h1 u hu
  ·exact T.rds_cell xs c2 h2 u hu
end
theorem Own.lt {B:Nat} {w:World} {x:T} {F:List Nat} {v:Value} (h:Own B w x F v): ∀ b ∈ F,b<w.heap.size:=T.ow_lt _ _ _ h.ow
theorem Own.all {B:Nat} {w w':World} {x:T} {F:List Nat} {v:Value} (h:Own B w x F v) (hb:Below w.heap.size w w'):Own B w' x F v:=⟨T.ow_all h.ow hb,h.nodup,h.lo⟩
theorem Own.more {B B':Nat} {w:World} {x:T} {F:List Nat} {v:Value} (h:Own B w x F v) (hb:B'≤B):Own B' w x F v:=⟨h.ow,h.nodup,fun b m=>Nat.le_trans hb (h.lo b m)⟩
theorem Own.nil (B:Nat) (w:World) (E:TypeId) (sz:Nat):Own B w (.sl E sz []) [] (.slice none 0 0):=by
 refine⟨?_,List.nodup_nil,by simp⟩
 simp only[T.ow]
 exact⟨_,[],[],rfl,by simp[Value.ownBlock],by simp,World.ownsRow_nil w 0 E sz,by simp[T.ows]⟩
theorem Own.app {B:Nat} {w:World} {E:TypeId} {sz:Nat} {xs:List T} {x:T} {F Fx:List Nat} {v:Value} {news:List Value} (h:Own B w (.sl E sz xs) F v) (hx:T.ow w x Fx news) (nx:Fx.Nodup) (lx: ∀ b ∈ Fx,B≤b)
  (hd: ∀ b ∈ F,b ∉ Fx) (hw:T.wide x=sz) (hB:B≤w.heap.size):
  ∃ es,w.ownsRow 0 E sz v xs.length es∧ ∀ v' w',w'.ownsRow 0 E sz v' (xs.length+1) (es++news)→w.grownBy w' v.ownBlock→(∀ k,v'.ownBlock=some k→v.ownBlock=some k∨w.heap.size≤k)→
   ∃ F',Own B w' (.sl E sz (xs++ [x])) F' v'∧ ∀ b ∈ F',b ∈ F∨b ∈ Fx∨w.heap.size≤b:=by
 obtain⟨ho,hn,hlo⟩:=h
 simp only[T.ow] at ho
 obtain⟨v0,es,G,e,rfl,hwd,hrow,hows⟩:=ho
 injection e with e _
 subst e
 refine⟨es,hrow,fun v' w' hrow' hg hv=>⟨v'.ownBlock.toList++(G++Fx),⟨?_,?_,?_⟩,?_⟩⟩
 ·simp only[T.ow]
  refine⟨v',es++news,G++Fx,rfl,rfl,?_,by simpa using hrow',?_⟩
  ·intro y hy
   rcases List.mem_append.1 hy with hy|hy
   ·exact hwd y hy
   ·simp at hy;subst hy;exact hw
  ·refine T.ows_snoc (T.ows_keep _ _ _ (fun b hb=>?_) hows) (T.ow_keep _ _ _ (fun b hb=>?_) hx)
   ·exact hg.block b (T.ows_lt _ _ _ hows b hb) (fun e=>nodup_dj hn b (by rw[←e];simp) hb)
   ·exact hg.block b (T.ow_lt _ _ _ hx b hb) (fun e=>hd b (List.mem_append.2 (.inl (by rw[←e];simp))) hb)
 ·rw[List.nodup_append]
  refine⟨by cases v'.ownBlock<;>simp,?_,?_⟩
  ·rw[List.nodup_append]
   exact⟨yN hn,nx,fun a ha b hb e=>hd a (List.mem_append.2 (.inr ha)) (e ▸ hb)⟩
  ·intro a ha b hb e
   subst e
   have ha:v'.ownBlock=some a:=by simpa using ha
   rcases hv a ha with k|k
   ·rcases List.mem_append.1 hb with hb|hb
    ·exact nodup_dj hn a (by rw[k];simp) hb
    ·exact hd a (List.mem_append.2 (.inl (by rw[k];simp))) hb
   ·rcases List.mem_append.1 hb with hb|hb
    ·have:=T.ows_lt _ _ _ hows a hb;omega
    ·have:=T.ow_lt _ _ _ hx a hb;omega
 ·intro b hb
  rcases List.mem_append.1 hb with hb|hb
  ·have hb:v'.ownBlock=some b:=by simpa using hb
   rcases hv b hb with k|k
   ·exact hlo b (List.mem_append.2 (.inl (by rw[k];simp)))
   ·omega
  ·rcases List.mem_append.1 hb with hb|hb
   ·exact hlo b (List.mem_append.2 (.inr hb))
   ·exact lx b hb
 ·intro b hb
  rcases List.mem_append.1 hb with hb|hb
  ·have hb:v'.ownBlock=some b:=by simpa using hb
   rcases hv b hb with k|k
   ·exact .inl (List.mem_append.2 (.inl (by rw[k];simp)))
   ·exact .inr (.inr k)
  ·rcases List.mem_append.1 hb with hb|hb
   ·exact .inl (List.mem_append.2 (.inr hb))
   ·exact .inr (.inl hb)
theorem Own.row {B:Nat} {w:World} {E:TypeId} {sz:Nat} {xs:List T} {F:List Nat} {v:Value} (h:Own B w (.sl E sz xs) F v): ∀ k,v.ownBlock=some k→B≤k:=by
 intro k hk
 obtain⟨ho,hn,hlo⟩:=h
 simp only[T.ow] at ho
 obtain⟨v0,es,G,e,rfl,_⟩:=ho
 injection e with e _
 subst e
 exact hlo k (List.mem_append.2 (.inl (by rw[hk];simp)))
theorem Own.mem {B:Nat} {w:World} {E:TypeId} {sz:Nat} {xs:List T} {F:List Nat} {v:Value} (h:Own B w (.sl E sz xs) F v): ∀ k,v.ownBlock=some k→k ∈ F:=by
 intro k hk
 obtain⟨ho,hn,hlo⟩:=h
 simp only[T.ow] at ho
 obtain⟨v0,es,G,e,rfl,_⟩:=ho
 injection e with e _
 subst e
 exact List.mem_append.2 (.inl (by rw[hk];simp))
theorem Own.born {B:Nat} {w:World} {E:TypeId} {sz:Nat} {v:Value} (h:w.ownsRow B E sz v 0 []):Own B w (.sl E sz []) v.ownBlock.toList v:=by
 refine⟨?_,by cases v.ownBlock<;>simp,fun b hb=>(h.lt b (by simpa using hb)).1⟩
 simp only[T.ow]
 refine⟨v,[],[],rfl,by simp,by simp,?_,by simp[T.ows]⟩
 exact own_more h (Nat.zero_le _)
theorem Own.below {B:Nat} {w w' w0:World} {E:TypeId} {sz:Nat} {xs:List T} {F:List Nat} {v:Value} (h:Own B w (.sl E sz xs) F v) (hb:Below B w0 w) (hB:B≤w.heap.size) (hg:w.grownBy w' v.ownBlock):Below B w0 w':=
 hb.grown hg hB (fun j hj=>h.row j hj)
theorem Bk.rd1 {w:World} {g:Nat} {t:TypeId} {ys:List Value} (h:Bk w g t ys.toArray):Rd w (.slice (some ⟨g,0,none⟩) 1 1) ys.length 1 ys:=
 ⟨by simp,_,1,rfl,Nat.le_refl _,by decide,fun _=>⟨g,0,rfl,h.lt,fun j u hj=>by rw[Nat.zero_add,h.cell j];simpa using hj⟩⟩
theorem T.ow_st {w:World} {fs:List T} {F:List Nat} {cs:List Value} (h:T.ows w fs F cs):T.ow w (.st fs) F cs:=by simp only[T.ow];exact h
theorem nodup_app {A B:List Nat} (ha:A.Nodup) (hb:B.Nodup) (h: ∀ x ∈ A,x ∉ B):(A++B).Nodup:=by
 rw[List.nodup_append]
 exact⟨ha,hb,fun a h1 b h2 e=>h a h1 (e ▸ h2)⟩
section
variable {P:Program}
/-- append of one element, whose cells the call has just laid in a block. -/
theorem app1_T {w:World} {ops:Array Oper} {rest:List Oper} {o:Oper} {a:Act} {Q:Exit→Act→World→Prop} {news:Array Value} (hgd:o.guard=none) (s y:Operand) (t:TypeId)
  (ho:o.op= .call { callee:= .builtin .append,args:= #[s,y],argTypes:= #[t,t] }) (B:Nat) (e:TypeId) (z:Value) (size bytes:Nat) (ht:P.underlying t=some (.slice e))
  (hinfo:(P.info? e).map (fun i=>(i.zero,i.size,i.bytes))=some (some z,size,bytes)) (hzs:z.cells.size=size) (hsz:0<size)
  {v:Value} {xs:List T} {x:T} {F Fx:List Nat} (hs:a.eval s=v) (hown:Own B w (.sl e size xs) F v) (hx:T.ow w x Fx news.toList) (nx:Fx.Nodup) (lx: ∀ b ∈ Fx,B≤b) (hd: ∀ b ∈ F,b ∉ Fx) (hw:T.wide x=size)
  (hy:a.eval y= .slice (some ⟨w.heap.size,0,none⟩) 1 1) (hbytes:(xs.length+1) * bytes≤140737488355328) (h63:xs.length+1≤9223372036854775807) (hB:B≤w.heap.size)
  (h: ∀ v' w' F',Own B w' (.sl e size (xs++ [x])) F' v'→w.grownBy w' v.ownBlock→(∀ b ∈ F',b ∈ F∨b ∈ Fx∨w.heap.size≤b)→wpList P ops Q rest (a.put o.dst v') w'):
  wpList P ops Q (o :: rest) a (w.alloc (.cells news e)):=by
 obtain⟨es,hrow,hk⟩:=hown.app hx nx lx hd hw hB
 refine app_one hgd s y t ho 0 e z size bytes ht hinfo hzs hsz v xs.length es hs hrow hy ?_ ?_ hbytes h63 (Nat.zero_le _) ?_
 ·have:=T.rd_len x _ (T.ow_rd _ _ _ hx)
  rw[hw] at this
  simpa using this
 ·exact T.rd_cell x _ (T.ow_rd _ _ _ hx)
 ·intro v' w' h1 h2 h3
  obtain⟨F',k1,k2⟩:=hk v' w' h1 h2 h3
  exact h v' w' F' k1 h2 k2
end
/-- append of all elements of a slice that reads, at a step of a region that draws its order. -/
theorem step_manyT {P:Program} {w:World} {ops:Array Oper} {o:Oper} {a:Act} {K:Act→World→Prop} {Q:Exit→Act→World→Prop} {E:Prop} (hgd:o.guard=none) (s x:Operand) (t:TypeId)
  (ho:o.op= .call { callee:= .builtin .append,args:= #[s,x],argTypes:= #[t,t] })
  (base:Nat) (e:TypeId) (z:Value) (size bytes:Nat) (ht:P.underlying t=some (.slice e)) (hinfo:(P.info? e).map (fun i=>(i.zero,i.size,i.bytes))=some (some z,size,bytes))
  (hzs:z.cells.size=size) (hsz:0<size)
  (v:Value) (n:Nat) (xs:List Value) (hs:a.eval s=v) (hown:w.ownsRow base e size v n xs)
  (y:Value) (m:Nat) (ys:List Value) (hx:a.eval x=y) (hr:Rd w y size m ys) (h1: ∀ u ∈ ys,u.oneCell'=true)
  (hbytes:(n+m) * bytes≤140737488355328) (h63:n+m≤maxLen) (hbase:base≤w.heap.size)
  (h: ∀ v' w',w'.ownsRow base e size v' (n+m) (xs++ys)→w.grownBy w' v.ownBlock→(∀ k,v'.ownBlock=some k→v.ownBlock=some k∨w.heap.size≤k)→K (a.put o.dst v') w'):
  if Region.wanted o (yielded ops a.tmps)=true then Oper.wp P o a w K Q else E:=by
 have hw:Region.wanted o (yielded ops a.tmps)=true:=by simp[Region.wanted,hgd]
 rw[if_pos hw]
 obtain⟨i0,hi,hz0,hz1,hz2⟩:=info_parts hinfo
 obtain⟨hl,A,cap,rfl,hc1,hc2,hcell⟩:=hr
 rcases Nat.eq_zero_or_pos m with hm|hm
 ·subst hm
  have hn:ys= []:=List.eq_nil_of_length_eq_zero (by simpa using hl)
  subst hn
  have hrun:(Builtin.append_ #[t,t] o.type #[v,.slice A 0 cap]).run P w= .ok v w:=by
   rcases hown.2 with ⟨rfl,rfl⟩|⟨g,cap',cur,rfl,_,_,hnc,_⟩
   ·cases A<;>simp[Builtin.append_,run_underlying ht,sizeOf,typeInfo,hi,Builtin.lenOf,Builtin.firstCells,loadCells,loadCellsFrom]
   ·cases A<;>simp[Builtin.append_,run_underlying ht,sizeOf,typeInfo,hi,Builtin.lenOf,Builtin.firstCells,hnc,storeCells,loadCells,loadCellsFrom]
  unfold Oper.wp execOp
  simp only[ho,resolve,invoke,builtin,Sem.run_bind,Sem.run_pure,Result.andThen_ok,List.map_toArray,List.map_cons,List.map_nil,hs,hx,hrun]
  exact h v w (by simpa using hown) (World.grownBy.refl _ _) fun k hk=> .inl hk
 ·obtain⟨b,off,rfl,hb,hcc⟩:=hcell hm
  refine wp_append_lies w s x t ho base e i0 z size bytes ht hi hz0 hz1 hz2 hzs hsz v n xs hs hown ⟨b,off,none⟩ m cap ys hx hl ?_ h1 hm h63 hbytes hbase _ rfl ?_
  ·intro j u hu
   rw[show (⟨b,off,none⟩:Addr).add j=⟨b,off+j,none⟩ by unfold Addr.add;split<;>simp_all]
   exact hcc j u hu
  ·intro g cap' w' h2 h3 h4 _
   refine h _ w' h2 h3 fun k hk=>?_
   injection hk with hk
   subst hk
   rcases h4 with h4|h4
   ·exact .inl h4
   ·exact .inr (by rw[h4];exact Nat.le_refl _)
/-- append of one element at a step of a region that draws its order. -/
theorem step1_T {P:Program} {w:World} {ops:Array Oper} {o:Oper} {a:Act} {K:Act→World→Prop} {Q:Exit→Act→World→Prop} {X:Prop} (hgd:o.guard=none) (s y:Operand) (t:TypeId)
  (ho:o.op= .call { callee:= .builtin .append,args:= #[s,y],argTypes:= #[t,t] }) (B:Nat) (e:TypeId) (z:Value) (size bytes:Nat) (ht:P.underlying t=some (.slice e))
  (hinfo:(P.info? e).map (fun i=>(i.zero,i.size,i.bytes))=some (some z,size,bytes)) (hzs:z.cells.size=size) (hsz:0<size)
  {v:Value} {xs:List T} {x:T} {F Fx:List Nat} {news:List Value} {g:Nat} (hs:a.eval s=v) (hown:Own B w (.sl e size xs) F v) (hy:a.eval y= .slice (some ⟨g,0,none⟩) 1 1) (hk:Bk w g e news.toArray)
  (hx:T.ow w x Fx news) (nx:Fx.Nodup) (lx: ∀ b ∈ Fx,B≤b) (hd: ∀ b ∈ F,b ∉ Fx) (hw:T.wide x=size)
  (hbytes:(xs.length+1) * bytes≤140737488355328) (h63:xs.length+1≤maxLen) (hB:B≤w.heap.size)
  (h: ∀ v' w' F',Own B w' (.sl e size (xs++ [x])) F' v'→w.grownBy w' v.ownBlock→(∀ b ∈ F',b ∈ F∨b ∈ Fx∨w.heap.size≤b)→K (a.put o.dst v') w'):
  if Region.wanted o (yielded ops a.tmps)=true then Oper.wp P o a w K Q else X:=by
 obtain⟨es,hrow,hk2⟩:=hown.app hx nx lx hd hw hB
 have hl:news.length=size:=by rw[←hw];exact T.rd_len x _ (T.ow_rd _ _ _ hx)
 refine step_manyT hgd s y t ho 0 e z size bytes ht hinfo hzs hsz v xs.length es hs hrow _ 1 news hy (by rw[←hl];exact hk.rd1) (T.rd_cell x _ (T.ow_rd _ _ _ hx)) hbytes h63 (Nat.zero_le _) ?_
 intro v' w' h1 h2 h3
 obtain⟨F',k1,k2⟩:=hk2 v' w' h1 h2 h3
 exact h v' w' F' k1 h2 k2
end Go.Proofs.YteiflbhcehajkaaGreat
end
section
namespace Go.Proofs.YteiflbhcehajkaaGreat
open Go.RowKit
/-- The element is another, in other blocks: the slice is closed again. -/
theorem Mid.put {w w':World} {E:TypeId} {sz n g cap:Nat} {pre:List T} {x x':T} {post:List T} {G1 Fx G2 Fy:List Nat} {c1 cx cx' c2:List Value} (h:Mid w E sz n g cap pre x post G1 Fx G2 c1 cx c2)
  (k:Trn [g] w w') (ho:w'.ownsRow 0 E sz (.slice (some ⟨g,0,none⟩) n cap) n (c1++(cx'++c2))) (he:T.ow w' x' Fy cx') (hw:T.wide x'=sz):
  T.ow w' (.sl E sz (pre++x' :: post)) (g :: (G1++(Fy++G2))) [.slice (some ⟨g,0,none⟩) n cap]:=by
 have hg:=(List.nodup_cons.1 h.nd).1
 have d1: ∀ b ∈ G1,b ∉ [g]:=fun b hb hm=>by
  rw[List.mem_singleton] at hm;subst hm;exact hg (by simp[hb])
 have d2: ∀ b ∈ G2,b ∉ [g]:=fun b hb hm=>by
  rw[List.mem_singleton] at hm;subst hm;exact hg (by simp[hb])
 simp only[T.ow]
 refine⟨_,c1++(cx'++c2),G1++(Fy++G2),rfl,by simp[Value.ownBlock],?_,?_,?_⟩
 ·intro y hy
  rcases List.mem_append.1 hy with hy|hy
  ·exact h.wd y (by simp[hy])
  ·rcases List.mem_cons.1 hy with rfl|hy
   ·exact hw
   ·exact h.wd y (by simp[hy])
 ·have:(pre++x' :: post).length=n:=by rw[h.ln];simp
  rw[this];exact ho
 ·refine(T.ows_app _ _ _ _).2 ⟨G1,Fy++G2,c1,cx'++c2,rfl,rfl,T.ows_trn h.pr k d1,?_⟩
  simp only[T.ows]
  exact⟨Fy,G2,cx',c2,rfl,rfl,he,T.ows_trn h.po k d2⟩
theorem cut_set {α:Type} {l:List α} {k:Nat} {x:α} (h:l[k]?=some x): ∃ pre post,l=pre++x :: post∧pre.length=k∧ ∀ y,l.set k y=pre++y :: post:=by
 obtain⟨hk,he⟩:=List.getElem?_eq_some_iff.1 h
 refine⟨l.take k,l.drop (k+1),?_,by rw[List.length_take];omega,fun y=>List.set_eq_take_append_cons_drop.trans (by rw[if_pos hk])⟩
 rw[←he,List.getElem_cons_drop hk,List.take_append_drop]
/-- An element of one cell is put into its place. -/
theorem Own.put1 {B:Nat} {w:World} {E:TypeId} {xs:List T} {F Fy:List Nat} {g n cap k:Nat} {x y:T} {u:Value} (h:Own B w (.sl E 1 xs) F (.slice (some ⟨g,0,none⟩) n cap)) (hk:xs[k]?=some x) (hy:T.ow w y Fy [u]) (ny:Fy.Nodup) (ly: ∀ b ∈ Fy,B≤b)
  (hd: ∀ b ∈ F,b ∉ Fy) (hw:T.wide y=1): ∃ F',Own B (w.setCell ⟨g,k,none⟩ u) (.sl E 1 (xs.set k y)) F' (.slice (some ⟨g,0,none⟩) n cap)∧ ∀ b ∈ F',b ∈ F∨b ∈ Fy:=by
 obtain⟨pre,post,hx,hl,hs⟩:=cut_set hk
 obtain⟨ho,hn,hlo⟩:=h
 rw[hx] at ho
 obtain⟨n',g',cap',G1,Fx,G2,c1,cx,c2,e1,e2,M⟩:=T.mid ho hn
 injection e1 with e1 e3 e4
 injection e1 with e1
 injection e1 with e1
 subst e1 e3 e4 e2
 have hg:g ∉ Fy:=hd g (by simp)
 have hc1:=M.c1
 rw[hl,Nat.mul_one] at hc1
 have hcx:cx.length=1:=by rw[T.rd_len _ _ (T.ow_rd _ _ _ M.el)];exact M.wd x (by simp)
 obtain⟨c,rfl⟩:=len1 hcx
 have hrow:=own_st 0 M.own hc1 (by simp) (u:=u)
 have hput:=M.put (x':=y) (Trn.set_ (F:= [g]) (by simp) k u) (by simpa using hrow) (T.ow_far hy hg k u) hw
 refine⟨_,⟨by rw[hs];exact hput,?_,?_⟩,?_⟩
 ·have nd:=M.nd
  rw[List.nodup_cons] at nd ⊢
  have n2:=nd.2
  refine⟨fun hm=>?_,nodup_app (nodup_fst n2) (nodup_app ny (yN (yN n2)) (fun b hb hm=>hd b (by simp[hm]) hb)) (fun b hb hm=>?_)⟩
  ·rcases List.mem_append.1 hm with hm|hm
   ·exact nd.1 (by simp[hm])
   ·rcases List.mem_append.1 hm with hm|hm
    ·exact hg hm
    ·exact nd.1 (by simp[hm])
  ·rcases List.mem_append.1 hm with hm|hm
   ·exact hd b (by simp[hb]) hm
   ·exact nodup_dj n2 b hb (by simp[hm])
 ·intro b hb
  rcases List.mem_cons.1 hb with rfl|hb
  ·exact hlo _ (by simp)
  ·rcases List.mem_append.1 hb with hb|hb
   ·exact hlo _ (by simp[hb])
   ·rcases List.mem_append.1 hb with hb|hb
    ·exact ly _ hb
    ·exact hlo _ (by simp[hb])
 ·intro b hb
  rcases List.mem_cons.1 hb with rfl|hb
  ·exact .inl (by simp)
  ·rcases List.mem_append.1 hb with hb|hb
   ·exact .inl (by simp[hb])
   ·rcases List.mem_append.1 hb with hb|hb
    ·exact .inr hb
    ·exact .inl (by simp[hb])
/-- A number is put into its place. -/
theorem Own.puti {B:Nat} {w:World} {E:TypeId} {xs:List Int} {F:List Nat} {g n cap k:Nat} (y:Int) (h:Own B w (T.ints E xs) F (.slice (some ⟨g,0,none⟩) n cap)) (hk:k<xs.length):
  ∃ F',Own B (w.setCell ⟨g,k,none⟩ (.int .i64 y)) (T.ints E (xs.set k y)) F' (.slice (some ⟨g,0,none⟩) n cap)∧ ∀ b ∈ F',b ∈ F:=by
 have h0:(xs.map T.num)[k]?=some (.num xs[k]):=by rw[List.getElem?_map,List.getElem?_eq_getElem hk];rfl
 obtain⟨F',h1,h2⟩:=Own.put1 (y:= .num y) (Fy:= []) h h0 (show T.ow w (.num y) [] [.int .i64 y] by simp[T.ow]) List.nodup_nil (by simp) (by simp) rfl
 refine⟨F',?_,fun b hb=>by rcases h2 b hb with h|h;exact h;cases h⟩
 have e:(xs.map T.num).set k (.num y)=(xs.set k y).map T.num:=by rw[List.map_set]
 rw[e] at h1
 exact h1
/-- The second of an element's two numbers is put into its place. -/
theorem Own.put2 {B:Nat} {w:World} {E:TypeId} {xs:List T} {F:List Nat} {g n cap k:Nat} {a b:Int} (y:Int) (h:Own B w (.sl E 2 xs) F (.slice (some ⟨g,0,none⟩) n cap)) (hk:xs[k]?=some (.st [.num a,.num b])):
  Own B (w.setCell ⟨g,k * 2+1,none⟩ (.int .i64 y)) (.sl E 2 (xs.set k (.st [.num a,.num y]))) F (.slice (some ⟨g,0,none⟩) n cap):=by
 obtain⟨pre,post,hx,hl,hs⟩:=cut_set hk
 obtain⟨ho,hn,hlo⟩:=h
 rw[hx] at ho
 obtain⟨n',g',cap',G1,Fx,G2,c1,cx,c2,e1,e2,M⟩:=T.mid ho hn
 injection e1 with e1 e3 e4
 injection e1 with e1
 injection e1 with e1
 subst e1 e3 e4 e2
 have hc1:=M.c1
 rw[hl] at hc1
 have hel:=M.el
 simp only[T.ow] at hel
 obtain⟨rfl,rfl⟩:Fx= []∧cx= [.int .i64 a,.int .i64 b]:=by
  simp only[T.ows_num,T.ows_nil] at hel
  obtain⟨c3,rfl,c4,rfl,rfl,rfl⟩:=hel
  exact⟨rfl,rfl⟩
 have hrow:=own_st 1 M.own hc1 (by simp) (u:= .int .i64 y)
 refine⟨?_,hn,hlo⟩
 rw[hs]
 exact M.close (x':= .st [.num a,.num y]) (cx':= [.int .i64 a,.int .i64 y]) (Trn.set_ (by simp) _ _) (by simpa using hrow) (T.ow_st (T.c_on (T.c_on T.c_oe))) rfl
/-- An element, and what becomes of the slice where only the element's own blocks turn. -/
theorem Own.inner {B:Nat} {w:World} {E:TypeId} {sz:Nat} {xs:List T} {F:List Nat} {g n cap k:Nat} {x:T} (h:Own B w (.sl E sz xs) F (.slice (some ⟨g,0,none⟩) n cap)) (hk:xs[k]?=some x):
  ∃ Fx cx,T.ow w x Fx cx∧Fx.Nodup∧(∀ b ∈ Fx,b ∈ F)∧g ∉ Fx∧(∀ j u,cx[j]?=some u→w.cell? ⟨g,k * sz+j,none⟩=some u)∧
   ∀ w' x',Trn Fx w w'→T.ow w' x' Fx cx→T.wide x'=sz→Own B w' (.sl E sz (xs.set k x')) F (.slice (some ⟨g,0,none⟩) n cap):=by
 obtain⟨pre,post,hx,hl,hs⟩:=cut_set hk
 obtain⟨ho,hn,hlo⟩:=h
 rw[hx] at ho
 obtain⟨n',g',cap',G1,Fx,G2,c1,cx,c2,e1,e2,M⟩:=T.mid ho hn
 injection e1 with e1 e3 e4
 injection e1 with e1
 injection e1 with e1
 subst e1 e3 e4 e2
 have hc1:=M.c1
 rw[hl] at hc1
 refine⟨Fx,cx,M.el,M.fx,fun b hb=>by simp[hb],M.gx,fun j u hj=>?_,fun w' x' k' he hw=>⟨?_,hn,hlo⟩⟩
 ·exact own_at j M.own hc1 hj
 ·rw[hs]
  exact M.close (k'.mono (fun b hb=>by simp[hb])) (own_trn M.own k' M.gx) he hw
end Go.Proofs.YteiflbhcehajkaaGreat
end
section
namespace Go.Proofs.YteiflbhcehajkaaGreat
open Go.RowKit
section
variable {P:Program}
theorem run_copy_rowK (w:World) (dT sT ty elem:TypeId) (size g o dLen dCap:Nat) (a:Addr) (sLen sCap:Nat) (cur:Array Value) (t:TypeId) (cs:List Value)
  (hu:P.underlying dT=some (.slice elem)) (hs:(P.info? elem).map (·.size)=some size)
  (hg:w.heap[g]?=some (.cells cur t (0,0))) (hn:cs.length=Nat.min sLen dLen * size)
  (hsrc: ∀ j v,cs[j]?=some v→w.cell? (a.add j)=some v) (hfit:o+cs.length≤cur.size) (h1: ∀ v ∈ cs,v.oneCell'=true):
  (Builtin.copy_ #[dT,sT] ty #[.slice (some ⟨g,o,none⟩) dLen dCap,.slice (some a) sLen sCap]).run P w=
   .ok (goInt (Nat.min sLen dLen)) (w.setRow g (cur.toList.take o++cs++cur.toList.drop (o+cs.length)).toArray):=by
 have hl:=run_loadCells_list (P:=P) w a cs hsrc
 have hst:=run_storeCells_at P g o t cs 0 cur w hg (by simpa using hfit) h1
 cases hq:P.info? elem with
 |none=>simp[hq] at hs
 |some i=>
  have hi:i.size=size:=by simpa[hq] using hs
  rw[hn] at hl
  simp[Builtin.copy_,run_underlying hu,Builtin.lenOf,Builtin.firstCells,sizeOf,typeInfo,hq,hi,hl,hst]
theorem wpList_copy_rowK {w:World} {ops:Array Oper} {rest:List Oper} {o:Oper} {a:Act} {Q:Exit→Act→World→Prop} (hgd:o.guard=none) (d s:Operand) (dT sT:TypeId)
  (ho:o.op= .call { callee:= .builtin .copy,args:= #[d,s],argTypes:= #[dT,sT] }) (elem:TypeId) (size:Nat) (hu:P.underlying dT=some (.slice elem)) (hsz:(P.info? elem).map (·.size)=some size)
  (g off dLen dCap:Nat) (ad:Addr) (sLen sCap:Nat) (hd:a.eval d= .slice (some ⟨g,off,none⟩) dLen dCap) (hs:a.eval s= .slice (some ad) sLen sCap)
  (cur:Array Value) (t:TypeId) (hg:w.heap[g]?=some (.cells cur t (0,0))) (cs:List Value) (hn:cs.length=Nat.min sLen dLen * size)
  (hsrc: ∀ j v,cs[j]?=some v→w.cell? (ad.add j)=some v) (hfit:off+cs.length≤cur.size) (h1: ∀ v ∈ cs,v.oneCell'=true)
  (h:wpList P ops Q rest (a.put o.dst (goInt (Nat.min sLen dLen))) (w.setRow g (cur.toList.take off++cs++cur.toList.drop (off+cs.length)).toArray)):wpList P ops Q (o :: rest) a w:=by
 refine wpList_plain hgd fun K hK=>?_
 have hrun:=run_copy_rowK (P:=P) w dT sT o.type elem size g off dLen dCap ad sLen sCap cur t cs hu hsz hg hn hsrc hfit h1
 unfold Oper.wp
 simp[execOp,ho,resolve,invoke,builtin,hd,hs,hrun,Result.andThen]
 exact hK _ _ (by simpa using h)
/-- The same as one step of a region that draws its order. -/
theorem step_copy_rowK {w:World} {ops:Array Oper} {o:Oper} {a:Act} {K:Act→World→Prop} {Q:Exit→Act→World→Prop} {E:Prop} (hgd:o.guard=none) (d s:Operand) (dT sT:TypeId)
  (ho:o.op= .call { callee:= .builtin .copy,args:= #[d,s],argTypes:= #[dT,sT] }) (elem:TypeId) (size:Nat) (hu:P.underlying dT=some (.slice elem)) (hsz:(P.info? elem).map (·.size)=some size)
  (g off dLen dCap:Nat) (ad:Addr) (sLen sCap:Nat) (hd:a.eval d= .slice (some ⟨g,off,none⟩) dLen dCap) (hs:a.eval s= .slice (some ad) sLen sCap)
  (cur:Array Value) (t:TypeId) (hg:w.heap[g]?=some (.cells cur t (0,0))) (cs:List Value) (hn:cs.length=Nat.min sLen dLen * size)
  (hsrc: ∀ j v,cs[j]?=some v→w.cell? (ad.add j)=some v) (hfit:off+cs.length≤cur.size) (h1: ∀ v ∈ cs,v.oneCell'=true)
  (h:K (a.put o.dst (goInt (Nat.min sLen dLen))) (w.setRow g (cur.toList.take off++cs++cur.toList.drop (off+cs.length)).toArray)):
  if Region.wanted o (yielded ops a.tmps)=true then Oper.wp P o a w K Q else E:=by
 have hw:Region.wanted o (yielded ops a.tmps)=true:=by simp[Region.wanted,hgd]
 rw[if_pos hw]
 have hrun:=run_copy_rowK (P:=P) w dT sT o.type elem size g off dLen dCap ad sLen sCap cur t cs hu hsz hg hn hsrc hfit h1
 unfold Oper.wp
 simp[execOp,ho,resolve,invoke,builtin,hd,hs,hrun,Result.andThen]
 have h':=h
 simp only[List.append_assoc] at h'
 exact h'
/-- append of n zeros behind a slice that has no room for them. -/
theorem run_append_grow_zeros (w:World) (t tn ty e:TypeId) (i:TypeInfo) (z:Value) (k kn:IntKind) (ht:P.underlying t=some (.slice e)) (htn:P.underlying tn=some (.int kn)) (hi:P.info? e=some i) (hz:i.zero=some z)
  (b:Addr) (sLen sCap:Nat) (olds:List Value) (hlo:olds.length=sLen * i.size) (holds: ∀ j v,olds[j]?=some v→w.cell? (b.add j)=some v)
  (n:Nat) (h0:0<n) (hs:0<i.size) (hg:sCap<sLen+n) (h63:((sLen+n:Nat):Int)≤9223372036854775807) (h48:n * i.bytes≤281474976710656) (hfit:Builtin.nextslicecap (sLen+n) sCap * i.bytes≤281474976710656):
  (Builtin.append_ #[t,tn] ty #[.slice (some b) sLen sCap,.int k n]).run P w=
   .ok (.slice (some ⟨w.heap.size,0,none⟩) (sLen+n) (grownCap w (sLen+n) sCap e))
    (w.drew.alloc (.cells (olds.toArray++Builtin.zeroCells z.cells n++Builtin.zeroCells z.cells (grownCap w (sLen+n) sCap e - (sLen+n))) e)):=by
 have hn0:n≠0:=by omega
 have hw:IntKind.i64.wrap (n:Int)=n:=by rw[IntKind.wrap_i64];omega
 have hneg: ¬ ((n:Int)<0):=by omega
 have hns: ¬ (n * i.size=0):=Nat.mul_ne_zero hn0 (by omega)
 have h48i: ¬ (281474976710656<(n:Int) * (i.bytes:Int)):=by
  rw[←Int.natCast_mul]
  omega
 have hn: ¬ (sLen+n≤sCap):=by omega
 have h63': ¬ (9223372036854775807<((sLen:Int)+(n:Int))):=by omega
 have h48': ¬ (281474976710656<Builtin.nextslicecap (sLen+n) sCap * i.bytes):=by omega
 have hfo:=run_firstCells_some (P:=P) w.drew i.size sLen b sLen sCap olds hlo (by simpa using holds)
 simp[Builtin.append_,run_underlying ht,run_underlying htn,sizeOf,typeInfo,zeroValue,hi,hz,asInt,asIntOf,hw,hn0,hneg,hns,hn,h63',h48',h48i,Question.forced,hfo,newRow,grownCap]
end
end Go.Proofs.YteiflbhcehajkaaGreat
end
section
namespace Go.Proofs.YteiflbhcehajkaaGreat
open Go.RowKit
/-- The slice v (elements xs, blocks F) and the other data os (blocks FR), all of the call's own, from B on. -/
structure Grow (B:Nat) (w:World) (E:TypeId) (sz:Nat) (xs:List T) (F:List Nat) (v:Value) (os:List T) (FR:List Nat) (cr:List Value):Prop where
 own:Own B w (.sl E sz xs) F v
 rest:T.ows w os FR cr
 nd:FR.Nodup
 lo: ∀ b ∈ FR,B≤b
 dj: ∀ b ∈ F,b ∉ FR
section
variable {B:Nat} {w w':World} {E E':TypeId} {sz sz':Nat} {xs:List T} {x:T} {F F' Fx FR:List Nat} {v v':Value} {os:List T} {cr:List Value}
theorem Grow.all (h:Grow B w E sz xs F v os FR cr) (hb:Below w.heap.size w w'):Grow B w' E sz xs F v os FR cr:=
 ⟨h.own.all hb,T.ows_all h.rest hb,h.nd,h.lo,h.dj⟩
theorem Grow.lt (h:Grow B w E sz xs F v os FR cr): ∀ b ∈ F,b<w.heap.size:=h.own.lt
theorem Grow.ltR (h:Grow B w E sz xs F v os FR cr): ∀ b ∈ FR,b<w.heap.size:=T.ows_lt _ _ _ h.rest
theorem Grow.far {g:Nat} (h:Grow B w E sz xs F v os FR cr) (h1:g ∉ F) (h2:g ∉ FR) (o:Nat) (u:Value):Grow B (w.setCell ⟨g,o,none⟩ u) E sz xs F v os FR cr:=
 ⟨⟨T.ow_far h.own.ow h1 o u,h.own.nodup,h.own.lo⟩,T.yM h.rest h2 o u,h.nd,h.lo,h.dj⟩
theorem Grow.app (h:Grow B w E sz xs F v os FR cr) (ho:Own B w' (.sl E sz (xs++ [x])) F' v') (hg:w.grownBy w' v.ownBlock) (hv: ∀ b ∈ F',b ∈ F∨b ∈ Fx∨w.heap.size≤b) (hd: ∀ b ∈ Fx,b ∉ FR):
  Grow B w' E sz (xs++ [x]) F' v' os FR cr:=by
 refine⟨ho,T.ows_keep _ _ _ (fun b hb=>hg.block b (h.ltR b hb) (fun e=>h.dj b (h.own.mem b e.symm) hb)) h.rest,h.nd,h.lo,fun b hb hm=>?_⟩
 rcases hv b hb with k|k|k
 ·exact h.dj b k hm
 ·exact hd b k hm
 ·have:=h.ltR b hm;omega
theorem Grow.out {g:Nat} (hv: ∀ b ∈ F',b ∈ F∨b ∈ Fx∨w.heap.size≤b) (h1:g ∉ F) (h2:g ∉ Fx) (h3:g<w.heap.size):g ∉ F':=fun hm=>by
 rcases hv g hm with k|k|k
 ·exact h1 k
 ·exact h2 k
 ·omega
theorem Grow.end_ (h:Grow B w E sz xs F v os FR cr):T.ows w (os++ [.sl E sz xs]) (FR++F) (cr++ [v])∧(FR++F).Nodup∧ ∀ b ∈ FR++F,B≤b:=by
 refine⟨T.ows_snoc h.rest h.own.ow,nodup_app h.nd h.own.nodup (fun b hb hm=>h.dj b hm hb),fun b hb=>?_⟩
 rcases List.mem_append.1 hb with hb|hb
 ·exact h.lo b hb
 ·exact h.own.lo b hb
theorem Grow.next (h:Grow B w E sz xs F v os FR cr) (E':TypeId) (sz':Nat):Grow B w E' sz' [] [] (.slice none 0 0) (os++ [.sl E sz xs]) (FR++F) (cr++ [v]):=
 ⟨Own.nil B w E' sz',h.end_.1,h.end_.2.1,h.end_.2.2,by simp⟩
theorem Grow.start {os:List T} {FR:List Nat} {cr:List Value} (h:T.ows w os FR cr) (nd:FR.Nodup) (lo: ∀ b ∈ FR,B≤b) (E':TypeId) (sz':Nat):Grow B w E' sz' [] [] (.slice none 0 0) os FR cr:=
 ⟨Own.nil B w E' sz',h,nd,lo,by simp⟩
theorem Grow.form (h:Grow B w E sz xs F v os FR cr): ∃ A l c,v= .slice A l c:=T.yT h.own.ow
theorem Grow.split {E1 E3:TypeId} {s1 s3:Nat} {l1 l3:List T} {v1 v3:Value} (h:Grow B w E sz xs F v [.sl E1 s1 l1,.sl E3 s3 l3] FR [v1,v3]):
  ∃ F1 F3,T.ow w (.sl E1 s1 l1) F1 [v1]∧T.ow w (.sl E3 s3 l3) F3 [v3]∧(F1++(F++(F3++ []))).Nodup∧(∀ b ∈ F1++(F++(F3++ [])),B≤b)∧ ∀ g,g ∉ F→g ∉ FR→g ∉ F1++(F++(F3++ [])):=by
 obtain⟨u1,r1,F1,F2,rfl,e1,o1,hr⟩:=T.ows_sl.1 h.rest
 obtain⟨u3,r3,F3,F4,rfl,e3,o3,hr3⟩:=T.ows_sl.1 hr
 obtain⟨rfl,rfl⟩:=T.ows_nil.1 hr3
 injection e1 with e1 e2
 subst e1
 rw[e3] at e2
 injection e2 with e2 _
 subst e2
 have nd:=h.nd
 have hm: ∀ b,b ∈ F1++(F++(F3++ []))→b ∈ F∨b ∈ F1++(F3++ []):=fun b hb=>by
  simp only[List.mem_append] at hb ⊢
  rcases hb with hb|hb|hb|hb
  ·exact .inr (.inl hb)
  ·exact .inl hb
  ·exact .inr (.inr (.inl hb))
  ·exact .inr (.inr (.inr hb))
 refine⟨F1,F3,o1,o3,?_,fun b hb=>?_,fun g h1 h2 hg=>?_⟩
 ·refine nodup_app (nodup_fst nd) (nodup_app h.own.nodup (yN nd) (fun b hb hb2=>h.dj b hb (List.mem_append.2 (.inr hb2)))) (fun b hb hb2=>?_)
  rcases List.mem_append.1 hb2 with hb2|hb2
  ·exact h.dj b hb2 (List.mem_append.2 (.inl hb))
  ·exact nodup_dj nd b hb hb2
 ·rcases hm b hb with hb|hb
  ·exact h.own.lo b hb
  ·exact h.lo b hb
 ·rcases hm g hg with hg|hg
  ·exact h1 hg
  ·exact h2 hg
theorem Bk.drew {g:Nat} {t:TypeId} {cs:Array Value} (h:Bk w g t cs):Bk w.drew g t cs:=h
theorem Bk.far1 {g:Nat} {t:TypeId} {cs:Array Value} (h:Bk w g t cs) (hg:w.grownBy w' v.ownBlock) (hn:g ∉ F) (ho:Own B w (.sl E sz xs) F v):Bk w' g t cs:=
 h.grown hg (fun e=>hn (ho.mem g e.symm))
end
end Go.Proofs.YteiflbhcehajkaaGreat
end
section
namespace Go.Proofs.YteiflbhcehajkaaGreat
open Go.RowKit
section
variable {s:GSession} {e:GEdit}
theorem applyF_fields (hv:SessionOk s) (h: ¬ FieldsOk e):applyF s e=(noSession,1):=by
 unfold applyF
 rw[if_neg (by rw[yV (fun k=>h k.2)];simp)]
theorem applyF_range (hv:SessionOk s) (hf:FieldsOk e) (h: ¬ RangeOk s e):applyF s e=(noSession,2):=by
 unfold applyF
 rw[if_pos (yW ⟨hv,hf⟩),if_neg (by rw[yV h];simp)]
theorem applyF_full (hv:SessionOk s) (hf:FieldsOk e) (h:RangeOk s e) (h1:e.zC=1) (h2:12≤(clipsAt s e.zV).length):applyF s e=(noSession,5):=by
 unfold applyF
 rw[if_pos (yW ⟨hv,hf⟩),if_pos (yW h),if_pos ⟨h1,h2⟩]
theorem applyF_bad (hv:SessionOk s) (hf:FieldsOk e) (h:RangeOk s e) (h1: ¬ (e.zC=1∧12≤(clipsAt s e.zV).length)) (h2: ¬ SessionOk (doE s e)):applyF s e=(noSession,6):=by
 unfold applyF
 rw[if_pos (yW ⟨hv,hf⟩),if_pos (yW h),if_neg h1,if_neg (by rw[yV h2];simp)]
theorem applyF_feed (hv:SessionOk s) (hf:FieldsOk e) (h:RangeOk s e) (h4:e.zC=4):applyF s e=({ s with zK:=s.zK.set e.zV.toNat e.zY },0):=by
 rw[applyF_of hv hf h (fun k=>by omega) (doE_feed hv h h4)]
 unfold doE;rw[if_pos h4]
theorem applyF_send (hv:SessionOk s) (hf:FieldsOk e) (h:RangeOk s e) (h5:e.zC=5):
  applyF s e=({ s with zF:=⟨turnAt s.zF.zD e.zV.toNat fun x=> { x with zS:=turnAt x.zS e.zZ.toNat fun y=> { y with zQ:=e.zY } }⟩ },0):=by
 rw[applyF_of hv hf h (fun k=>by omega) (doE_send hv h h5)]
 unfold doE;rw[if_neg (by omega),if_pos h5]
theorem applyF_clips (hv:SessionOk s) (hf:FieldsOk e) (h:RangeOk s e) (h1: ¬ (e.zC=1∧12≤(clipsAt s e.zV).length)) (h4:e.zC≠4) (h5:e.zC≠5) {k:Nat} {t:GTrack} (hk:e.zV=(k:Int)) (ht:s.zE[k]?=some t):
  applyF s e=if tf (TrackOk ⟨editL t.zL e⟩)=true then ({ s with zE:=s.zE.set k ⟨editL t.zL e⟩ },0) else (noSession,6):=by
 have ht':s.zE[e.zV.toNat]?=some t:=by rw[hk,Int.toNat_natCast];exact ht
 have hd:=doE_clips hv hf h h4 h5 ht'
 by_cases ho:TrackOk ⟨editL t.zL e⟩
 ·rw[if_pos (yW ho),applyF_of hv hf h h1 (hd.2 ho),doE_kind s e h4 h5,hk,Int.toNat_natCast,turnAt_of ht]
 ·rw[if_neg (by rw[yV ho];simp),applyF_bad hv hf h h1 (fun k=>ho (hd.1 k))]
end
/-- One part of data of the call's own. -/
theorem T.ows_part {w:World} {pre post:List T} {x:T} {F:List Nat} {cs:List Value} (h:T.ows w (pre++x :: post) F cs) (nd:F.Nodup):
  ∃ Fp Fx Fq cp cx cq,F=Fp++(Fx++Fq)∧cs=cp++(cx++cq)∧cp.length=T.wides pre∧T.ow w x Fx cx∧Fx.Nodup∧
   ∀ w' x' Fy cy,Trn Fx w w'→T.ow w' x' Fy cy→Fy.Nodup→(∀ b ∈ Fy,b ∈ Fx∨w.heap.size≤b)→
    T.ows w' (pre++x' :: post) (Fp++(Fy++Fq)) (cp++(cy++cq))∧(Fp++(Fy++Fq)).Nodup∧ ∀ b ∈ Fp++(Fy++Fq),b ∈ F∨w.heap.size≤b:=by
 obtain⟨Fp,F2,cp,c2,rfl,rfl,h1,h2⟩:=(T.ows_app _ _ _ _).1 h
 simp only[T.ows] at h2
 obtain⟨Fx,Fq,cx,cq,rfl,rfl,h3,h4⟩:=h2
 have n1:=nodup_fst nd
 have n2:=yN nd
 have d1:=nodup_dj nd
 have d2:=nodup_dj n2
 refine⟨Fp,Fx,Fq,cp,cx,cq,rfl,rfl,T.ows_len h1,h3,nodup_fst n2,fun w' x' Fy cy ht hy ny hn=>⟨?_,?_,?_⟩⟩
 ·refine(T.ows_app _ _ _ _).2 ⟨Fp,Fy++Fq,cp,cy++cq,rfl,rfl,T.ows_trn h1 ht (fun b hb hm=>d1 b hb (List.mem_append.2 (.inl hm))),?_⟩
  simp only[T.ows]
  exact⟨Fy,Fq,cy,cq,rfl,rfl,hy,T.ows_trn h4 ht (fun b hb hm=>d2 b hm hb)⟩
 ·refine nodup_app n1 (nodup_app ny (yN n2) (fun b hb hm=>?_)) (fun b hb hm=>?_)
  ·rcases hn b hb with k|k
   ·exact d2 b k hm
   ·have:=T.ows_lt _ _ _ h4 b hm;omega
  ·rcases List.mem_append.1 hm with hm|hm
   ·rcases hn b hm with k|k
    ·exact d1 b hb (List.mem_append.2 (.inl k))
    ·have:=T.ows_lt _ _ _ h1 b hb;omega
   ·exact d1 b hb (List.mem_append.2 (.inr hm))
 ·intro b hb
  rcases List.mem_append.1 hb with hb|hb
  ·exact .inl (List.mem_append.2 (.inl hb))
  ·rcases List.mem_append.1 hb with hb|hb
   ·rcases hn b hb with k|k
    ·exact .inl (List.mem_append.2 (.inr (List.mem_append.2 (.inl k))))
    ·exact .inr k
   ·exact .inl (List.mem_append.2 (.inr (List.mem_append.2 (.inr hb))))
end Go.Proofs.YteiflbhcehajkaaGreat
end
