/- Laws for data that is marked cell by cell. No program is named here. Contract: the order of a patch's nodes, by the program. Contracts: what is valid, by the reference: clips, tracks, names, mixers. Plain laws on decimal numbers: what is written is read back. No program is named here. -/
import Derived.Test.YtoibekfhepnedaaGreatQAdExactMakeCache
import Derived.Test.YtoibekfhepnedaaGreatQAeExactMakeCache
import Derived.Test.YtoibekfhepnedaaGreatQAcExactMakeCache
import Derived.Test.YtoibekfhepnedaaGreatQAaExactMakeCache
import Derived.Lib.ItoaNum
import Derived.Lib.ItoaLen
import Derived.Lib.ParseIntB
import Derived.Lib.ParseIntBCases
import Derived.Lib.ParseIntBTie
set_option linter.unusedVariables false
set_option linter.unusedSimpArgs false
set_option maxHeartbeats 2000000
set_option maxRecDepth 20000
namespace Go.Proofs.YtoibekfhepnedaaGreat
section
open Go.RowKit
def wF {α:Type} (c:α→Nat):List α→Nat
 | []=>0
 |x :: r=>c x+wF c r
def mkL {α:Type} (m:α→Nat→α) (c:α→Nat):List α→Nat→List α
 | [],_=> []
 |x :: r,k=>m x k :: mkL m c r (k+c x)
section
variable {α:Type} {m:α→Nat→α} {c:α→Nat}
theorem vK: ∀ (xs:List α) (k:Nat),(mkL m c xs k).length=xs.length
 | [],_=>rfl
 |x :: r,k=>by simp[mkL,vK r]
theorem cntL_snoc: ∀ (xs:List α) (x:α),wF c (xs++ [x])=wF c xs+c x
 | [],x=>by simp[wF]
 |y :: r,x=>by simp only[List.cons_append,wF,cntL_snoc r];omega
theorem mkL_snoc: ∀ (xs:List α) (x:α) (k:Nat),mkL m c (xs++ [x]) k=mkL m c xs k++ [m x (k+wF c xs)]
 | [],x,k=>by simp[mkL,wF]
 |y :: r,x,k=>by simp only[List.cons_append,mkL,wF,mkL_snoc r];rw[Nat.add_assoc]
theorem wP {xs:List α} {i:Nat} {x:α} (h:xs[i]?=some x):wF c (xs.take (i+1))=wF c (xs.take i)+c x:=by rw[xQ h,cntL_snoc]
theorem mkL_take {xs:List α} {i k:Nat} {x:α} (h:xs[i]?=some x):mkL m c (xs.take (i+1)) k=mkL m c (xs.take i) k++ [m x (k+wF c (xs.take i))]:=by rw[xQ h,mkL_snoc]
theorem uX: ∀ (xs:List α) (i:Nat),wF c (xs.take i)≤wF c xs
 | [],i=>by simp[wF]
 |x :: r,0=>by simp[wF]
 |x :: r,i+1=>by simp only[List.take_succ_cons,wF];have:=uX r i;omega
theorem mkL_at: ∀ {xs:List α} {i k:Nat} {x:α},xs[i]?=some x→(mkL m c xs k)[i]?=some (m x (k+wF c (xs.take i)))
 | [],_,_,_,h=>by simp at h
 |y :: r,0,k,x,h=>by simp at h;subst h;simp[mkL,wF]
 |y :: r,i+1,k,x,h=>by
  have:=mkL_at (xs:=r) (i:=i) (k:=k+c y) (x:=x) (by simpa using h)
  simp only[mkL,List.getElem?_cons_succ,List.take_succ_cons,wF]
  rw[this,Nat.add_assoc]
end
section
variable {w w' a b:World} {F G:List Nat}
theorem Trn.refl (F:List Nat) (w:World):Trn F w w:=⟨rfl,rfl,rfl,Nat.le_refl _,fun _ _ _=>rfl⟩
theorem Trn.trans (h:Trn F w a) (k:Trn F a b):Trn F w b:=
 ⟨k.os.trans h.os,k.tape.trans h.tape,k.output.trans h.output,Nat.le_trans h.size k.size,fun x hx hn=>(k.block x (lL hx h.size) hn).trans (h.block x hx hn)⟩
theorem Trn.mono (h:Trn F w w') (hs: ∀ b ∈ F,b ∈ G):Trn G w w':=⟨h.os,h.tape,h.output,h.size,fun x hx hn=>h.block x hx (fun e=>hn (hs x e))⟩
theorem Trn.of_below (h:Below w.heap.size w w'):Trn F w w':=⟨h.os,h.tape,h.output,h.size,fun x hx _=>h.block x hx⟩
theorem Trn.set_ {g:Nat} (hg:g ∈ F) (o:Nat) (u:Value):Trn F w (w.setCell ⟨g,o,none⟩ u):=
 ⟨rfl,rfl,rfl,by simp[World.setCell],fun x _ hn=>Below.heap_setCell w _ u x (fun e=>hn (by rw[show x=g from e];exact hg))⟩
theorem Trn.alloc (o:Obj):Trn F w (w.alloc o):=Trn.of_below ((Below.refl _ _).alloc (Nat.le_refl _) o)
theorem Trn.of_grown {v:Value} (h:w.grownBy w' v.ownBlock):Trn v.ownBlock.toList w w':=
 ⟨h.os,h.tape,h.output,h.size,fun x hx hn=>h.block x hx (fun e=>hn (by rw[←e];simp))⟩
theorem Trn.below {B:Nat} {w0:World} (hb:Below B w0 w) (h:Trn F w w') (hF: ∀ b ∈ F,B≤b) (hB:B≤w.heap.size):Below B w0 w':=
 hb.trans ⟨h.os,h.tape,h.output,h.size,fun k hk=>h.block k (by omega) (fun e=>by have:=hF k e;omega)⟩
theorem T.ow_trn {x:T} {cs:List Value} (h:T.ow w x F cs) (k:Trn G w w') (hd: ∀ b ∈ F,b ∉ G):T.ow w' x F cs:=
 T.ow_keep x F cs (fun b hb=>k.block b (T.ow_lt x F cs h b hb) (hd b hb)) h
theorem T.ows_trn {xs:List T} {cs:List Value} (h:T.ows w xs F cs) (k:Trn G w w') (hd: ∀ b ∈ F,b ∉ G):T.ows w' xs F cs:=
 T.ows_keep xs F cs (fun b hb=>k.block b (T.ows_lt xs F cs h b hb) (hd b hb)) h
theorem own_trn {B E sz n g cap:Nat} {es:List Value} (h:w.ownsRow B E sz (.slice (some ⟨g,0,none⟩) n cap) n es) (k:Trn G w w') (hd:g ∉ G):w'.ownsRow B E sz (.slice (some ⟨g,0,none⟩) n cap) n es:=
 zDz (fun b hb=>by
  have e:g=b:=by simpa[Value.ownBlock] using hb
  subst e
  exact k.block _ (h.lt _ rfl).2 hd) h
theorem Bk.trn {g:Nat} {t:TypeId} {cs:Array Value} (h:Bk w g t cs) (k:Trn G w w') (hd:g ∉ G):Bk w' g t cs:=(k.block g h.lt hd).trans h
end
theorem wY {A B:List Nat} (h:(A++B).Nodup):A.Nodup:=(List.nodup_append.1 h).1
theorem yQ {A B:List Nat} (h:(A++B).Nodup):B.Nodup:=(List.nodup_append.1 h).2.1
theorem wI {A B:List Nat} (h:(A++B).Nodup): ∀ b ∈ A,b ∉ B:=fun b h1 h2=>(List.nodup_append.1 h).2.2 b h1 b h2 rfl
theorem nodup_dj' {A B:List Nat} (h:(A++B).Nodup): ∀ b ∈ B,b ∉ A:=fun b h1 h2=>(List.nodup_append.1 h).2.2 b h2 b h1 rfl
theorem own_set1 {w:World} {B E sz n g cap j:Nat} {c1 cx c2:List Value} {u:Value} (h:w.ownsRow B E sz (.slice (some ⟨g,0,none⟩) n cap) n (c1++(cx++c2))) (hj:j<cx.length):
  (w.setCell ⟨g,c1.length+j,none⟩ u).ownsRow B E sz (.slice (some ⟨g,0,none⟩) n cap) n (c1++(cx.set j u++c2)):=by
 have:=(World.ownsRow.stored h (c1.length+j) u).1
 rw[List.set_append_right _ _ (by omega),Nat.add_sub_cancel_left,List.set_append_left _ _ hj] at this
 exact this
/-- A slice of the call's own, open at one element. -/
structure Mid (w:World) (E:TypeId) (sz n g cap:Nat) (pre:List T) (x:T) (post:List T) (G1 Fx G2:List Nat) (c1 cx c2:List Value):Prop where
 own:w.ownsRow 0 E sz (.slice (some ⟨g,0,none⟩) n cap) n (c1++(cx++c2))
 pr:T.ows w pre G1 c1
 el:T.ow w x Fx cx
 po:T.ows w post G2 c2
 nd:(g :: (G1++(Fx++G2))).Nodup
 wd: ∀ y ∈ pre++x :: post,T.wide y=sz
 ln:n=(pre++x :: post).length
theorem T.mid {w:World} {E:TypeId} {sz:Nat} {pre:List T} {x:T} {post:List T} {F:List Nat} {v:Value} (h:T.ow w (.sl E sz (pre++x :: post)) F [v]) (hn:F.Nodup):
  ∃ n g cap G1 Fx G2 c1 cx c2,v= .slice (some ⟨g,0,none⟩) n cap∧F=g :: (G1++(Fx++G2))∧Mid w E sz n g cap pre x post G1 Fx G2 c1 cx c2:=by
 simp only[T.ow] at h
 obtain⟨v',es,G,hv,rfl,hw,ho,hs⟩:=h
 obtain rfl:v=v':=by simpa using hv
 obtain⟨G1,F2,c1,c3,rfl,rfl,h1,h2⟩:=(T.ows_app _ _ _ _).1 hs
 simp only[T.ows] at h2
 obtain⟨Fx,G2,cx,c2,rfl,rfl,h3,h4⟩:=h2
 rcases ho.2 with ⟨_,h0⟩|⟨g,cap,cur,hv2,_⟩
 ·simp at h0
 ·subst hv2
  exact⟨_,g,cap,G1,Fx,G2,c1,cx,c2,rfl,by simp[Value.ownBlock],ho,h1,h3,h4,by simpa[Value.ownBlock] using hn,hw,rfl⟩
theorem Mid.c1 {w:World} {E:TypeId} {sz n g cap:Nat} {pre:List T} {x:T} {post:List T} {G1 Fx G2:List Nat} {c1 cx c2:List Value} (h:Mid w E sz n g cap pre x post G1 Fx G2 c1 cx c2):c1.length=pre.length * sz:=by
 rw[T.ows_len h.pr,T.wides_mul pre (fun y hy=>h.wd y (by simp[hy]))]
theorem Mid.gx {w:World} {E:TypeId} {sz n g cap:Nat} {pre:List T} {x:T} {post:List T} {G1 Fx G2:List Nat} {c1 cx c2:List Value} (h:Mid w E sz n g cap pre x post G1 Fx G2 c1 cx c2):g ∉ Fx:=fun hm=>by
 have:=(List.nodup_cons.1 h.nd).1
 exact this (by simp[hm])
theorem Mid.fx {w:World} {E:TypeId} {sz n g cap:Nat} {pre:List T} {x:T} {post:List T} {G1 Fx G2:List Nat} {c1 cx c2:List Value} (h:Mid w E sz n g cap pre x post G1 Fx G2 c1 cx c2):Fx.Nodup:=
 wY (yQ (List.nodup_cons.1 h.nd).2)
/-- The element has turned: the slice is closed again. -/
theorem Mid.close {w w':World} {E:TypeId} {sz n g cap:Nat} {pre:List T} {x x':T} {post:List T} {G1 Fx G2:List Nat} {c1 cx cx' c2:List Value} (h:Mid w E sz n g cap pre x post G1 Fx G2 c1 cx c2)
  (k:Trn (g :: Fx) w w') (ho:w'.ownsRow 0 E sz (.slice (some ⟨g,0,none⟩) n cap) n (c1++(cx'++c2))) (he:T.ow w' x' Fx cx') (hw:T.wide x'=sz):
  T.ow w' (.sl E sz (pre++x' :: post)) (g :: (G1++(Fx++G2))) [.slice (some ⟨g,0,none⟩) n cap]:=by
 have hg:=(List.nodup_cons.1 h.nd).1
 have h2:=(List.nodup_cons.1 h.nd).2
 have d1: ∀ b ∈ G1,b ∉ g :: Fx:=fun b hb hm=>by
  rcases List.mem_cons.1 hm with rfl|hm
  ·exact hg (by simp[hb])
  ·exact wI h2 b hb (by simp[hm])
 have d2: ∀ b ∈ G2,b ∉ g :: Fx:=fun b hb hm=>by
  rcases List.mem_cons.1 hm with rfl|hm
  ·exact hg (by simp[hb])
  ·exact nodup_dj' (yQ h2) b hb hm
 simp only[T.ow]
 refine⟨_,c1++(cx'++c2),G1++(Fx++G2),rfl,by simp[Value.ownBlock],?_,?_,?_⟩
 ·intro y hy
  rcases List.mem_append.1 hy with hy|hy
  ·exact h.wd y (by simp[hy])
  ·rcases List.mem_cons.1 hy with rfl|hy
   ·exact hw
   ·exact h.wd y (by simp[hy])
 ·have:(pre++x' :: post).length=n:=by rw[h.ln];simp
  rw[this];exact ho
 ·refine(T.ows_app _ _ _ _).2 ⟨G1,Fx++G2,c1,cx'++c2,rfl,rfl,T.ows_trn h.pr k d1,?_⟩
  simp only[T.ows]
  exact⟨Fx,G2,cx',c2,rfl,rfl,he,T.ows_trn h.po k d2⟩
theorem T.mid_empty {w:World} {E:TypeId} {sz:Nat} {F:List Nat} {v:Value} (h:T.ow w (.sl E sz []) F [v]): ∃ A c,v= .slice A 0 c:=by
 obtain⟨A,cap,rfl,_⟩:=T.yO (T.ow_rd _ _ _ h)
 exact⟨A,cap,rfl⟩
theorem T.ow_form {w:World} {E:TypeId} {sz:Nat} {xs:List T} {F:List Nat} {v:Value} (h:T.ow w (.sl E sz xs) F [v]) (hn:0<xs.length): ∃ g cap,v= .slice (some ⟨g,0,none⟩) xs.length cap∧xs.length≤cap∧cap≤9223372036854775807:=by
 simp only[T.ow] at h
 obtain⟨v',es,G,hv,_,_,ho,_⟩:=h
 obtain rfl:v=v':=by simpa using hv
 rcases ho.2 with ⟨_,h0⟩|⟨g,cap,cur,hv2,_,_,h1,h2,_⟩
 ·omega
 ·exact⟨g,cap,hv2,h1,by unfold maxLen at h2;omega⟩
theorem own_st {w:World} {B E sz n g cap p:Nat} (j:Nat) {c1 cx c2:List Value} {u:Value} (h:w.ownsRow B E sz (.slice (some ⟨g,0,none⟩) n cap) n (c1++(cx++c2))) (hc:c1.length=p) (hj:j<cx.length):
  (w.setCell ⟨g,p+j,none⟩ u).ownsRow B E sz (.slice (some ⟨g,0,none⟩) n cap) n (c1++(cx.set j u++c2)):=by
 subst hc;exact own_set1 h hj
theorem wT {w:World} {B E sz n g cap p:Nat} (j:Nat) {c1 zs c2:List Value} (h:w.ownsRow B E sz (.slice (some ⟨g,0,none⟩) n cap) n (c1++(zs++c2))) (hc:c1.length=p) {u:Value} (hj:zs[j]?=some u):w.cell? ⟨g,p+j,none⟩=some u:=by
 subst hc;exact vJ h hj
end
section
open Go.RowKit
/-- A row of marks of the call's own. -/
def Tk (w:World) (B g n:Nat) (f:Nat→Bool):Prop:=w.ownsRow B 4 1 (.slice (some ⟨g,0,none⟩) n n) n ((List.range n).map fun i=> .bool (f i))
theorem Tk.cell {w:World} {B g n:Nat} {f:Nat→Bool} (h:Tk w B g n f) {i:Nat} (hi:i<n):w.cell? ⟨g,i,none⟩=some (.bool (f i)):=by
 rw[World.ownsRow.cellAt h i (by omega),List.getElem?_map,List.getElem?_range hi];rfl
theorem Tk.free {w:World} {B g n:Nat} {f:Nat→Bool} (h:Tk w B g n f) (i:Nat):w.frozen? ⟨g,i,none⟩=false:=World.ownsRow.frozenAt h i
theorem Tk.lt {w:World} {B g n:Nat} {f:Nat→Bool} (h:Tk w B g n f):g<w.heap.size:=(World.ownsRow.lt h g rfl).2
theorem Tk.all {w w':World} {B g n:Nat} {f:Nat→Bool} (h:Tk w B g n f) (hb:Below w.heap.size w w'):Tk w' B g n f:=wO h hb
theorem Tk.grown {w w':World} {B g n:Nat} {f:Nat→Bool} {row:Option Nat} (h:Tk w B g n f) (hg:w.grownBy w' row) (hr:some g≠row):Tk w' B g n f:=
 zDz (fun b hb=>by injection hb with hb;subst hb;exact hg.block _ h.lt hr) h
theorem Tk.set_ {w:World} {B g n:Nat} {f:Nat→Bool} (h:Tk w B g n f) (k:Nat):Tk (w.setCell ⟨g,k,none⟩ (.bool true)) B g n (fun i=>if i=k then true else f i):=by
 have:=(World.ownsRow.stored h k (.bool true)).1
 unfold Tk
 have e:((List.range n).map fun i=>Value.bool (f i)).set k (.bool true)=(List.range n).map fun i=>Value.bool (if i=k then true else f i):=by
  apply List.ext_getElem
  ·simp
  ·intro i h1 h2
   rw[List.getElem_set]
   by_cases e:k=i
   ·simp[e]
   ·have e': ¬ i=k:=fun h=>e h.symm
    simp[e,e']
 rw[e] at this
 exact this
theorem Tk.grown_set {w:World} {B g n:Nat} {f:Nat→Bool} (h:Tk w B g n f) (k:Nat):w.grownBy (w.setCell ⟨g,k,none⟩ (.bool true)) (some g):=(World.ownsRow.stored h k (.bool true)).2
theorem info_bool:(Tryz.prog.info? 4).map (fun i=>(i.zero,i.size,i.bytes))=some (some (.bool false),1,1):=by kernel_rfl
theorem Tk.made {w:World} {B g n:Nat} (h:w.ownsRow B 4 1 (.slice (some ⟨g,0,none⟩) n n) n (madeCells (Value.bool false).cells (n * 1)).toList):Tk w B g n fun _=>false:=by
 have e:(madeCells (Value.bool false).cells (n * 1)).toList=List.replicate n (Value.bool false):=by
  rw[Nat.mul_one];exact toList_madeCells_one _ n
 rw[e] at h
 unfold Tk
 have e2:(List.range n).map (fun i=>Value.bool false)=List.replicate n (Value.bool false):=by
  apply List.ext_getElem
  ·simp
  ·intro i h1 h2;simp
 rw[e2]
 exact h
theorem readyB_of {nodes:List xJ} {out:List Int} {k:Nat} {y:xJ} (h:nodes[k]?=some y):readyB nodes out k=(!decide ((k:Int) ∈ out) && (vY y).all fun f=>decide (f ∈ out)):=by
 unfold readyB
 rw[h]
 simp
theorem all_take_snoc {l:List Int} {out:List Int} {t:Nat} {f:Int} (h:l[t]?=some f):((l.take (t+1)).all fun f=>decide (f ∈ out))=((l.take t).all (fun f=>decide (f ∈ out)) && decide (f ∈ out)):=by
 rw[xQ h,List.all_append]
 simp
def lenV:Value→Nat
 | .slice _ n _=>n
 |_=>0
def fdN:Value→Nat
 | .bool true=>1
 |_=>0
theorem mark_snoc (l:List Int) (k:Nat):(fun i:Nat=>if i=k then true else decide ((i:Int) ∈ l))=fun i:Nat=>decide ((i:Int) ∈ l++ [(k:Int)]):=by
 funext i
 by_cases e:i=k
 ·subst e;simp
 ·have: ¬ (i:Int)=(k:Int):=by omega
  simp[e,this]
theorem waits_idx {y:xJ} {n:Int} (h:Idx y.zH n):Idx (vY y) n:=by
 unfold vY
 split
 ·intro i x hx;simp at hx
 ·exact h
theorem OwI.all {E:TypeId} {w w':World} {B:Nat} {v:Value} {xs:List Int} (h:OwI E w B v xs) (hb:Below w.heap.size w w'):OwI E w' B v xs:=h.below hb fun b hb'=>(h.lt b hb').2
theorem c_order (x:xG) (cs:List Value) (w:World) (hn:x.zB.length≤1048576) (hw:Each x.zB fun _ y=>Idx y.zH (x.zB.length:Int)) (h:T.rds w x.fs cs):Calls Tryz.prog 223 #[.agg cs.toArray] w fun e w'=> ∃ v,e= .returned v∧OwI 2 w' w.heap.size v (xR x.zB)∧Below w.heap.size w w':=by
 obtain⟨v1,v2,v3,rfl,h1,h2,h3⟩:=xG.yO h
 clear h
 have R1:=hide h1;obtain⟨va1,vc1,rfl,vl1,vm1,vx1⟩:=T.yN h1
 have HX1:=hide vx1;clear vx1 h1
 have R2:=hide h2;obtain⟨va2,vc2,rfl,vl2,vm2,vx2⟩:=T.yN h2
 have HX2:=hide vx2;clear vx2 h2
 have h3i:=T.yT.1 h3;obtain⟨va3,vc3,rfl,vl3,vm3,vx3⟩:=h3i.open_
 have R3:=hide h3i;have HX3:=hide vx3;clear vx3 h3 h3i
 have HB0:=hide (show Below w.heap.size w (w.alloc (.cells #[.int .i64 x.zJ,(.slice va1 x.zN.length vc1),(.slice va2 x.zB.length vc2),(.slice va3 x.zK.length vc3)] 108)) from(Below.refl _ _).alloc (Nat.le_refl _) _)
 have HK0:=hide (Bk.born w 108 #[.int .i64 x.zJ,(.slice va1 x.zN.length vc1),(.slice va2 x.zB.length vc2),(.slice va3 x.zK.length vc3)])
 have HWF:=hide hw;clear hw
 obtain⟨i0,hi,hz0,hz1,hz2⟩:=info_parts info_bool
 go_enter Tryz.func223,Tryz.ntmps223
 go_wp2_with (at_make;refine wpList_make_full _ rfl _ _ _ rfl w.heap.size 4 i0 _ 1 Tryz.underlying293 hi hz0 hz1 .i64 .i64 _ _ x.zB.length rfl rfl rfl rfl (by rw[hz2];omega) (by unfold maxLen;omega) (by simp) ?_;intro w1 hown1 hg1)
 have e1:(w.alloc (.cells #[.int .i64 x.zJ,(.slice va1 x.zN.length vc1),(.slice va2 x.zB.length vc2),(.slice va3 x.zK.length vc3)] 108)).heap.size=w.heap.size+1:=by simp
 rw[e1] at hown1
 have HT1:=hide (Tk.made hown1);have hz1':w.heap.size+2≤w1.heap.size:=by have:=HT1.out.lt;omega
 have HB1:=hide (HB0.out.grown hg1 (by rw[e1];omega) (by simp));have HK1:=hide (HK0.out.grown hg1 (by simp))
 clear hown1 hg1 e1 hi hz0 hz1 hz2 hz1'
 have hz1':w.heap.size+2≤w1.heap.size:=by have:=HT1.out.lt;omega
 go_loopw [4,5] (fun v fd wr=> ∃ (m:Nat) (b:Bool),fd= .bool b∧OwI 2 wr (w.heap.size+2) v (xB x.zB m)∧(xB x.zB m).length=m∧Tk wr w.heap.size (w.heap.size+1) x.zB.length (fun i=>decide ((i:Int) ∈ (xB x.zB m)))∧(b=false→nextF x.zB (xB x.zB m)=none)∧Bk wr w.heap.size 108 #[.int .i64 x.zJ,(.slice va1 x.zN.length vc1),(.slice va2 x.zB.length vc2),(.slice va3 x.zK.length vc3)]∧Below w.heap.size w wr) (fun v fd _=>x.zB.length - lenV v+fdN fd)
 case atStart=>
  refine⟨0,true,rfl,(vC w1).more hz1',rfl,?_,fun h=>absurd h (by simp),HK1.out.alloc _,HB1.out.alloc (by omega) _⟩
  have:=HT1.out.all ((Below.refl _ _).alloc (Nat.le_refl _) (.cells #[] 2))
  simpa[xB] using this
 case round=>
  obtain⟨m,b,rfl,ho,hlen,htk,hst,hbk,hbw⟩:=hrel
  obtain⟨A,cp,rfl,hcl,hcm,_⟩:=ho.rd.open_
  have HO:=hide ho;have HLEN:=hide hlen;have HTK:=hide htk;have HST:=hide hst;have HK:=hide hbk;have HB:=hide hbw;have hsz:=hbw.size;clear ho htk hst hbk hbw
  have ka:=HK.out.cell;have la:=HK.out.lt;have hcap:=ordNodes_cap (nodes:=x.zB) m
  cases b
  ·have HS2:=hide (HST.out rfl)
   have HE:=hide (orderF_of_stop HS2.out HLEN.out)
   clear hlen hcap
   go_wp2
   go_ret
   exact⟨_,rfl,by rw[HE.out];exact HO.out.more (by omega),HB.out⟩
  rw[hlen] at hcap hcl ⊢
  have HO':=hide (show OwI 2 wr (w.heap.size+2) (.slice A m cp) (xB x.zB m) by have:=HO.out;rwa [hlen] at this)
  clear hlen
  go_wp2
  clear ka la
  generalize wr=wo at *
  go_loopw [4,5,20] (fun v fd i wr=> ∃ k:Nat,k≤x.zB.length∧i= .int .i64 k∧v= .slice A m cp∧fd= .bool false∧(∀ j,j<k→readyB x.zB (xB x.zB m) j=false)∧Below wo.heap.size wo wr) (fun _ _ i _=>x.zB.length - (intOf i).toNat)
  case atStart=>exact⟨0,Nat.zero_le _,rfl,rfl,rfl,fun j h=>absurd h (by omega),Below.refl _ _⟩
  case round=>
   obtain⟨k,hk,rfl,rfl,rfl,hno,hbw⟩:=hrel
   have HNO:=hide hno;have HW:=hide hbw;have HB2:=hide (yJ HB.out HB.out.size hbw);have HK2:=hide (HK.out.below hbw HK.out.lt);have HT2:=hide (HTK.out.all hbw);have HO2:=hide (HO'.out.all hbw);clear hno hbw
   have ka:=HK2.out.cell;have la:=HK2.out.lt;have lt:=HT2.out.lt
   by_cases hlt:k<x.zB.length
   rotate_left
   ·have hnone:=hide (nextF_none (nodes:=x.zB) (out:=(xB x.zB m)) (fun j hj=>HNO.out j (by omega)))
    go_wp2
    go_roundw
    case rel=>exact⟨m,false,rfl,HO2.out,HLEN.out,HT2.out,fun _=>hnone.out,HK2.out,HB2.out⟩
    case measure=>show x.zB.length - m+0<x.zB.length - m+1;omega
   have hgk:=gE hlt
   obtain⟨b1,off,cs1,hA,hb1,hcs,hcell⟩:=HX2.out k x.zB[k] hgk
   subst hA
   generalize x.zB[k]=y at *
   have HG:=hide hgk;have HWY:=hide (HWF.out k y hgk);clear hgk
   obtain⟨u3,rfl,hRY3⟩:=xJ.yO (show T.rds _ _ _ by simpa only[xJ.t,T.rd] using hcs)
   have d0:=(HB2.out.cell hb1).trans (hcell 0 (.int .i64 y.zD) rfl)
   have d1:=(HB2.out.cell hb1).trans (hcell 1 (.int .i64 y.fA) rfl)
   have d2:=(HB2.out.cell hb1).trans (hcell 2 (.int .i64 y.fB) rfl)
   have d3:=(HB2.out.cell hb1).trans (hcell 3 (u3) rfl)
   rw[show off+(k * 4+0)=off+k * 4 by omega] at d0
   rw[show off+(k * 4+1)=off+k * 4+1 by omega] at d1
   rw[show off+(k * 4+2)=off+k * 4+2 by omega] at d2
   rw[show off+(k * 4+3)=off+k * 4+3 by omega] at d3
   have RY3:=hide (T.yF hRY3 HB2.out);clear hRY3
   clear hcs hcell
   have RY3i:=hide (T.yT.1 RY3.out);obtain⟨ua3,uc3,rfl,ul3,um3,ux3⟩:=RY3i.out.open_;clear ux3
   have hq1:b1<wr.heap.size:=lL hb1 HB2.out.size
   have ct:=HT2.out.cell hlt
   have HRDY:=hide (readyB_of (out:=(xB x.zB m)) HG.out)
   generalize hk0:decide ((k:Int) ∈ (xB x.zB m))=kin at *
   clear hk0
   have HWY2:=hide (show Below wr.heap.size wr (wr.alloc (.cells #[.int .i64 y.zD,.int .i64 y.fA,.int .i64 y.fB,(.slice ua3 y.zH.length uc3)] 167)) from(Below.refl _ _).alloc (Nat.le_refl _) _)
   go_wp2_with fail
   refine(c_waitsFor y _ _ (xJ.rd_mk (T.yF RY3.out HWY2.out))).mono ?_;rintro e w4 ⟨u,rfl,hu,hb4⟩
   have HB4:=hide (yJ HWY2.out HWY2.out.size hb4);clear hb4
   have HB5:=hide (yJ HB2.out HB2.out.size HB4.out);have HK5:=hide (HK2.out.below HB4.out HK2.out.lt);have HT5:=hide (HT2.out.all HB4.out);have HO5:=hide (HO2.out.all HB4.out);have HW5:=hide (yJ HW.out HW.out.size HB4.out)
   have HU:=hide hu
   obtain⟨ua,uc,rfl,hul,hum,hux⟩:=hu.open_
   have HUX:=hide hux;clear hux ka la lt ct d0 d1 d2 d3 hq1 hu
   go_wp2
   go_loopw [8,33] (fun r i ws=> ∃ t:Nat,t≤(vY y).length∧i= .int .i64 t∧r= .bool (!kin && ((vY y).take t).all fun f=>decide (f ∈ (xB x.zB m)))∧Below w4.heap.size w4 ws) (fun _ i _=>(vY y).length - (intOf i).toNat)
   case atStart=>exact⟨0,Nat.zero_le _,rfl,by simp,Below.refl _ _⟩
   case round=>
    obtain⟨t,ht,rfl,rfl,hbs⟩:=hrel
    have HW6:=hide hbs;have HB6:=hide (yJ HB5.out HB5.out.size hbs);have HK6:=hide (HK5.out.below hbs HK5.out.lt);have HT6:=hide (HT5.out.all hbs);have HO6:=hide (HO5.out.all hbs);clear hbs
    have ka:=HK6.out.cell;have la:=HK6.out.lt;have lt:=HT6.out.lt
    generalize hgr:(!kin && ((vY y).take t).all fun f=>decide (f ∈ (xB x.zB m)))=r at *
    have HR:=hide hgr;clear hgr
    by_cases hltt:t<(vY y).length
    ·have hgt:=gE hltt
     obtain⟨b3,off3,hA,hb3,hcf⟩:=HUX.out t (vY y)[t] hgt
     subst hA
     generalize (vY y)[t]=fv at *
     have HF:=hide hgt;clear hgt
     have hfr:=(waits_idx HWY.out) t fv HF.out
     obtain⟨fn,rfl⟩: ∃ fn:Nat,fv=(fn:Int):=⟨fv.toNat,by omega⟩
     have hfn:fn<x.zB.length:=by omega
     have cf:=(HW6.out.cell hb3).trans hcf;have hq3:b3<wr.heap.size:=lL hb3 HW6.out.size
     have ct:=HT6.out.cell hfn
     have HSN:=hide (all_take_snoc (out:=(xB x.zB m)) HF.out)
     generalize hf0:decide ((fn:Int) ∈ (xB x.zB m))=fin at *
     clear hf0 hfr
     have n1:((fn:Int)<(x.zB.length:Int)):=by omega
     cases r
     ·go_wp2
      go_roundw
      case rel=>exact⟨t+1,by omega,by go_num,by rw[HSN.out,←Bool.and_assoc,HR.out];rfl,HW6.out⟩
      case measure=>simp[intOf];omega
     ·go_wp2
      go_roundw
      case rel=>exact⟨t+1,by omega,by go_num,by rw[HSN.out,←Bool.and_assoc,HR.out];rfl,HW6.out⟩
      case measure=>simp[intOf];omega
    have ht2:t=(vY y).length:=by omega
    have HRD:=hide (show readyB x.zB (xB x.zB m) k=r by rw[HRDY.out,←HR.out,ht2,List.take_length])
    clear ht2
    cases r
    ·go_wp2
     go_roundw
     case rel=>exact⟨k+1,by omega,by go_num,rfl,rfl,fun j hj=>by
    by_cases e:j=k
    ·subst e;exact HRD.out
    ·exact HNO.out j (by omega),yJ HW5.out HW5.out.size HW6.out⟩
     case measure=>simp[intOf];omega
    have HNX:=hide (nextF_some hlt HRD.out HNO.out)
    have fr:=HT6.out.free k;have ck:=HT6.out.cell hlt
    have n2:((k:Int)<(x.zB.length:Int)):=by omega
    have HT7:=hide (show Tk (wr.setCell ⟨w.heap.size+1,k,none⟩ (.bool true)) w.heap.size (w.heap.size+1) x.zB.length (fun i=>decide ((i:Int) ∈ (xB x.zB m)++ [(k:Int)])) by have:=HT6.out.set_ k;rw[mark_snoc] at this;exact this);have HG7:=hide (HT6.out.grown_set k)
    have HO7:=hide (HO6.out.far (p:=⟨w.heap.size+1,k,none⟩) (fun b hb=>by have:=(HO6.out.lt b hb).1;simp only;omega) (.bool true))
    have HK7:=hide (HK6.out.far (p:=⟨w.heap.size+1,k,none⟩) (by simp only;omega) (.bool true))
    have HB7:=hide (HB6.out.grown HG7.out HB6.out.size (fun j hj=>by injection hj with hj;omega));have hs7:=HB7.out.size;have hz7:=HG7.out.size
    have hbb:w.heap.size+2≤(wr.setCell ⟨w.heap.size+1,k,none⟩ (.bool true)).heap.size:=by omega
    have hll:(xB x.zB m).length+1≤17592186044416:=by rw[HLEN.out];omega
    have hsz7:(wr.setCell ⟨w.heap.size+1,k,none⟩ (.bool true)).heap.size=wr.heap.size:=by simp[World.setCell]
    go_wp2_with (at_builtin;refine uQ (n:=(k:Int)) rfl _ _ rfl rfl HO7.out (by show Value.slice (some ⟨wr.heap.size,0,none⟩) 1 1=_;rw[hsz7]) hll hbb ?_;intro v8 w8 ho8 hg8 hv8;have HO8:=hide ho8;have HG8:=hide hg8;clear ho8 hg8 hv8)
    have HB8:=hide (HB7.out.grown HG8.out (by omega) (fun j hj=>by have:=(HO7.out.lt j hj).1;omega))
    have HT8:=hide (HT7.out.grown HG8.out (fun e=>by have:=(HO7.out.lt _ e.symm).1;omega))
    have HK8:=hide (HK7.out.grown HG8.out (fun e=>by have:=(HO7.out.lt _ e.symm).1;omega))
    have HSN:=hide (ordNodes_snoc HNX.out)
    have HL8:=hide (show (xB x.zB (m+1)).length=m+1 by rw[HSN.out,List.length_append,HLEN.out];rfl)
    have hc8:=ordNodes_cap (nodes:=x.zB) (m+1)
    rw[HL8.out] at hc8
    obtain⟨A8,c8,rfl,_,_,_⟩:=HO8.out.rd.open_
    have HO9:=hide (show OwI 2 w8 (w.heap.size+2) (.slice A8 (m+1) c8) (xB x.zB (m+1)) by have:=HO8.out;rw[HSN.out];simpa[HLEN.out] using this)
    rw[show (xB x.zB m++ [(k:Int)]).length=m+1 by rw[←HSN.out];exact HL8.out]
    clear HO8 fr ck
    go_wp2
    go_roundw
    case rel=>
     refine⟨m+1,true,rfl,HO9.out,HL8.out,?_,fun h=>absurd h (by simp),HK8.out,HB8.out⟩
     have:=HT8.out
     rw[HSN.out]
     exact this
    case measure=>show x.zB.length - (m+1)+1<x.zB.length - m+1;omega
end
section
open Go.RowKit
/-- A struct within a struct behind a pointer. -/
theorem T.at_sub {w:World} {fs:List T} {b o:Nat} (pre sub post:List Value) (hb:b<w.heap.size) (hc: ∀ j u,(pre++(sub++post))[j]?=some u→w.cell? ⟨b,o+j,none⟩=some u) (h:T.rds w fs sub):T.at w fs b (o+pre.length):=
 ⟨hb,sub,h,fun j u hj=>by
  have hl:=(List.getElem?_eq_some_iff.1 hj).1
  have:=hc (pre.length+j) u (by rw[List.getElem?_append_right (by omega),Nat.add_sub_cancel_left,List.getElem?_append_left hl];exact hj)
  rwa [←Nat.add_assoc] at this⟩
theorem c_l23Clip (x:xL) (b o:Nat) (w:World) (h:T.at w x.fs b o):Calls Tryz.prog 157 #[.pointer (some ⟨b,o,none⟩)] w fun e w'=>e= .returned (.bool (tf (ClipOk x)))∧Below w.heap.size w w':=by
 have HAT:=hide h
 obtain⟨hlt0,cs,hr,hc⟩:=h
 obtain rfl:=xL.yO hr
 clear hr
 have HL:=hide hlt0;have HCC:=hide hc;have HB0:=hide (Below.refl w.heap.size w);clear hlt0 hc
 have p0:w.cell? ⟨b,o,none⟩=some (.int .i64 x.zU):=(HB0.out.cell HL.out).trans (HCC.out 0 _ rfl)
 have p1:w.cell? ⟨b,o+1,none⟩=some (.int .i64 x.zH):=(HB0.out.cell HL.out).trans (HCC.out 1 _ rfl)
 have p2:w.cell? ⟨b,o+2,none⟩=some (.int .i64 x.zF):=(HB0.out.cell HL.out).trans (HCC.out 2 _ rfl)
 have p3:w.cell? ⟨b,o+3,none⟩=some (.int .i64 x.zX):=(HB0.out.cell HL.out).trans (HCC.out 3 _ rfl)
 have p4:w.cell? ⟨b,o+4,none⟩=some (.int .i64 x.zS):=(HB0.out.cell HL.out).trans (HCC.out 4 _ rfl)
 have lb:b<w.heap.size:=lL HL.out HB0.out.size
 go_enter Tryz.func157,Tryz.ntmps157
 by_cases q1:inB x.zU 0 5=true
 rotate_left
 ·have q1':inB x.zU 0 5=false:=(by simpa using q1)
  go_wp2_with (first|(go_at_call 87;refine(xX _ _ _ _).mono ?_;rintro e w' ⟨rfl,rfl⟩)|(go_at_call 158;refine(wG _ _).mono ?_;rintro e w' ⟨rfl,rfl⟩))
  go_ret
  exact⟨yI (yZ fun h=>q1 h.source).symm,HB0.out⟩
 skip
 by_cases q2:inB x.zF 1 4000=true
 rotate_left
 ·have q2':inB x.zF 1 4000=false:=(by simpa using q2)
  go_wp2_with (first|(go_at_call 87;refine(xX _ _ _ _).mono ?_;rintro e w' ⟨rfl,rfl⟩)|(go_at_call 158;refine(wG _ _).mono ?_;rintro e w' ⟨rfl,rfl⟩))
  go_ret
  exact⟨yI (yZ fun h=>q2 h.length).symm,HB0.out⟩
 have i2:=xC.1 q2
 by_cases q3:Smp x.zS
 rotate_left
 ·have q3':decide (Smp x.zS)=false:=decide_eq_false q3;have Q3:=hide q3;clear q3
  go_wp2_with (first|(go_at_call 87;refine(xX _ _ _ _).mono ?_;rintro e w' ⟨rfl,rfl⟩)|(go_at_call 158;refine(wG _ _).mono ?_;rintro e w' ⟨rfl,rfl⟩))
  go_ret
  exact⟨yI (yZ fun h=>Q3.out h.gain).symm,HB0.out⟩
 have q3':decide (Smp x.zS)=true:=decide_eq_true q3;have Q3:=hide q3;clear q3
 by_cases q4:inB x.zH 0 (4000 - x.zF)=true
 rotate_left
 ·have q4':inB x.zH 0 (4000 - x.zF)=false:=(by simpa using q4)
  go_wp2_with (first|(go_at_call 87;refine(xX _ _ _ _).mono ?_;rintro e w' ⟨rfl,rfl⟩)|(go_at_call 158;refine(wG _ _).mono ?_;rintro e w' ⟨rfl,rfl⟩))
  have g0:=yG p0
  have g1:=yG p1
  have g2:=yG p2
  have g3:=yG p3
  have g4:=yG p4
  refine xD (by kernel_rfl) (by kernel_rfl) ?_
  repeat(first|go_big_quiet_skip|(go_big_quiet_want;go_big_quiet_op;first|go_big_quiet_on|(apply Exists.intro;refine⟨fun _=>?_,?_⟩;(· ((go_at_call 87;exact Calls.yK ((xX _ _ _ _).mono (fun e w' h=>by(first|rw[q4'] at h|skip);exact h)))));go_big_quiet_on)))
  refine wpQuiet_nil ?_
  rintro w9 ⟨uu,rfl⟩
  have hb9:=yH w uu
  generalize bel w uu=w9 at *
  have HB9:=hide (yJ HB0.out HB0.out.size hb9);clear g0 g1 g2 g3 g4
  go_wp2
  go_ret
  exact⟨yI (yZ fun h=>q4 h.from_).symm,HB9.out⟩
 by_cases q5:inB x.zX 0 (4000 - x.zF)=true
 rotate_left
 ·have q5':inB x.zX 0 (4000 - x.zF)=false:=(by simpa using q5)
  go_wp2_with (first|(go_at_call 87;refine(xX _ _ _ _).mono ?_;rintro e w' ⟨rfl,rfl⟩)|(go_at_call 158;refine(wG _ _).mono ?_;rintro e w' ⟨rfl,rfl⟩))
  have g0:=yG p0
  have g1:=yG p1
  have g2:=yG p2
  have g3:=yG p3
  have g4:=yG p4
  refine xD (by kernel_rfl) (by kernel_rfl) ?_
  repeat(first|go_big_quiet_skip|(go_big_quiet_want;go_big_quiet_op;first|go_big_quiet_on|(apply Exists.intro;refine⟨fun _=>?_,?_⟩;(· ((go_at_call 87;exact Calls.yK ((xX _ _ _ _).mono (fun e w' h=>by(first|rw[q4] at h|rw[q5'] at h|skip);exact h)))));go_big_quiet_on)))
  refine wpQuiet_nil ?_
  rintro w9 ⟨uu,rfl⟩
  have hb9:=yH w uu
  generalize bel w uu=w9 at *
  have HB9:=hide (yJ HB0.out HB0.out.size hb9);clear g0 g1 g2 g3 g4
  go_wp2
  go_ret
  exact⟨yI (yZ fun h=>q5 h.at_).symm,HB9.out⟩
 go_wp2_with (first|(go_at_call 87;refine(xX _ _ _ _).mono ?_;rintro e w' ⟨rfl,rfl⟩)|(go_at_call 158;refine(wG _ _).mono ?_;rintro e w' ⟨rfl,rfl⟩))
 have g0:=yG p0
 have g1:=yG p1
 have g2:=yG p2
 have g3:=yG p3
 have g4:=yG p4
 refine xD (by kernel_rfl) (by kernel_rfl) ?_
 repeat(first|go_big_quiet_skip|(go_big_quiet_want;go_big_quiet_op;first|go_big_quiet_on|(apply Exists.intro;refine⟨fun _=>?_,?_⟩;(· ((go_at_call 87;exact Calls.yK ((xX _ _ _ _).mono (fun e w' h=>by(first|rw[q4] at h|rw[q5] at h|skip);exact h)))));go_big_quiet_on)))
 refine wpQuiet_nil ?_
 rintro w9 ⟨uu,rfl⟩
 have hb9:=yH w uu
 generalize bel w uu=w9 at *
 have HB9:=hide (yJ HB0.out HB0.out.size hb9);clear g0 g1 g2 g3 g4
 go_wp2
 go_ret
 exact⟨yI (xA ⟨q1,q2,q4,q5,Q3.out⟩).symm,HB9.out⟩
theorem c_l23Ok (x:xI) (b o:Nat) (w:World) (h:T.at w x.fs b o):Calls Tryz.prog 231 #[.pointer (some ⟨b,o,none⟩)] w fun e w'=>e= .returned (.bool (tf (TrackOk x)))∧Below w.heap.size w w':=by
 have HAT:=hide h
 obtain⟨hlt0,cs,hr,hc⟩:=h
 obtain⟨v0,rfl,h0⟩:=xI.yO hr
 clear hr
 have R0:=hide h0;obtain⟨va0,vc0,rfl,vl0,vm0,vx0⟩:=T.yN h0
 have HX0:=hide vx0;clear vx0 h0
 have HL:=hide hlt0;have HCC:=hide hc;have HB0:=hide (Below.refl w.heap.size w);clear hlt0 hc
 have p0:w.cell? ⟨b,o,none⟩=some (.slice va0 x.zR.length vc0):=(HB0.out.cell HL.out).trans (HCC.out 0 _ rfl)
 have lb:b<w.heap.size:=lL HL.out HB0.out.size
 go_enter Tryz.func231,Tryz.ntmps231
 go_wp2
 clear p0 lb
 go_loopw [3] (fun i wr=> ∃ k:Nat,k≤x.zR.length∧i= .int .i64 k∧vI x.zR (fun i c=>ClipOk c∧ ∀ p,0<i→x.zR[i - 1]?=some p→p.zX≤c.zX) k∧Below w.heap.size w wr) (fun i _=>x.zR.length - (intOf i).toNat)
 case atStart=>exact⟨0,Nat.zero_le _,rfl,vI.zero,Below.refl _ _⟩
 case round=>
  obtain⟨k,hk,rfl,hs,hbw⟩:=hrel
  have HS:=hide hs;have HW:=hide hbw;have HB:=hide (yJ HB0.out HB0.out.size hbw);clear hs hbw
  have p0:wr.cell? ⟨b,o,none⟩=some (.slice va0 x.zR.length vc0):=(HB.out.cell HL.out).trans (HCC.out 0 _ rfl)
  have lb:b<wr.heap.size:=lL HL.out HB.out.size
  by_cases hlt:k<x.zR.length
  rotate_left
  ·have hall:=hide (HS.out.all (by omega));clear HS
   by_cases h12:x.zR.length≤12
   ·go_wp2
    go_ret
    exact⟨yI (by rw[xA ⟨hall.out,h12⟩];exact decide_eq_true (by omega)),HB.out⟩
   ·go_wp2
    go_ret
    exact⟨yI (by rw[yZ fun h=>h12 h.few];exact decide_eq_false (by omega)),HB.out⟩
  have hgk:=gE hlt
  obtain⟨b1,off,csy,hA,hb1,hcs,hcell⟩:=HX0.out k x.zR[k] hgk
  subst hA
  generalize x.zR[k]=y at *
  have HG:=hide hgk;clear hgk
  have HAy:=hide (T.at_elem (o:=off+k * 5) hb1 (show T.rds w y.fs csy by simpa only[xL.t,T.rd] using hcs) hcell (by omega));clear hcs hcell
  have n1:((k:Int)<(x.zR.length:Int)):=by omega
  by_cases hk0:k=0
  ·have g0':decide (0<k)=false:=decide_eq_false (by omega)
   have K0:=hide hk0;clear hk0
   by_cases q1:ClipOk y
   ·have a1:=xA q1;have Q1:=hide q1;clear q1
    go_wp2
    have g0:=yG p0
    refine xD (by kernel_rfl) (by kernel_rfl) ?_
    repeat(first|go_big_quiet_skip|(go_big_quiet_want;go_big_quiet_op;first|go_big_quiet_on|(apply Exists.intro;refine⟨fun _=>?_,?_⟩;(· (go_at_call 157;exact Calls.yL ((c_l23Clip y _ _ _ (T.at_below HAy.out (yJ HB.out HB.out.size (yH wr _)))).mono (fun e w' h=>by rw[a1] at h;exact h))));go_big_quiet_on)))
    refine wpQuiet_nil ?_
    rintro w9 ⟨uu,rfl⟩
    have hb9:=yH wr uu
    generalize bel wr uu=w9 at *
    have HB9:=hide (yJ HB.out HB.out.size hb9);clear g0
    have HW9:=hide (yJ HW.out HW.out.size hb9);clear hb9
    go_wp2
    go_roundw
    case rel=>exact⟨k+1,by omega,by go_num,HS.out.step HG.out ⟨Q1.out,fun p h=>by have:=K0.out;omega⟩,HW9.out⟩
    case measure=>simp[intOf];omega
   ·have a1:=yZ q1;have Q1:=hide q1;clear q1
    go_wp2
    have g0:=yG p0
    refine xD (by kernel_rfl) (by kernel_rfl) ?_
    repeat(first|go_big_quiet_skip|(go_big_quiet_want;go_big_quiet_op;first|go_big_quiet_on|(apply Exists.intro;refine⟨fun _=>?_,?_⟩;(· (go_at_call 157;exact Calls.yL ((c_l23Clip y _ _ _ (T.at_below HAy.out (yJ HB.out HB.out.size (yH wr _)))).mono (fun e w' h=>by rw[a1] at h;exact h))));go_big_quiet_on)))
    refine wpQuiet_nil ?_
    rintro w9 ⟨uu,rfl⟩
    have hb9:=yH wr uu
    generalize bel wr uu=w9 at *
    have HB9:=hide (yJ HB.out HB.out.size hb9);clear g0
    have HW9:=hide (yJ HW.out HW.out.size hb9);clear hb9
    go_wp2
    go_ret
    exact⟨yI (yZ fun h=>Q1.out (h.clips k y HG.out).1).symm,HB9.out⟩
  obtain⟨j,rfl⟩: ∃ j,k=j+1:=⟨k - 1,by omega⟩
  clear hk0
  have hltj:j<x.zR.length:=by omega
  have hgk:=gE hltj
  obtain⟨b2,off2,csz,hA,hb2,hcs,hcell⟩:=HX0.out j x.zR[j] hgk
  obtain⟨rfl,rfl⟩:b1=b2∧off=off2:=by injection hA with hA;injection hA with e1 e2;exact⟨e1,e2⟩
  clear hA
  generalize x.zR[j]=z at *
  have HJ:=hide hgk;clear hgk
  have HAz:=hide (T.at_elem (o:=off+j * 5) hb2 (show T.rds w z.fs csz by simpa only[xL.t,T.rd] using hcs) hcell (by omega));clear hcs hcell
  obtain⟨_,csy',hry,hcy⟩:=HAy.out
  obtain rfl:=xL.yO hry
  have cy3:wr.cell? ⟨b1,off+(j+1) * 5+3,none⟩=some (.int .i64 y.zX):=(HB.out.cell hb1).trans (hcy 3 _ rfl)
  obtain⟨_,csz',hrz,hcz⟩:=HAz.out
  obtain rfl:=xL.yO hrz
  have cz3:wr.cell? ⟨b1,off+j * 5+3,none⟩=some (.int .i64 z.zX):=(HB.out.cell hb1).trans (hcz 3 _ rfl)
  clear hry hcy hrz hcz
  have e1:IntKind.i64.wrap ((j:Int)+1 - 1)=(j:Int):=by rw[IntWalk.i64_in _ (by omega)];omega
  have e2:IntKind.i64.wrap (j:Int)=(j:Int):=IntWalk.i64_in _ (by omega)
  have n0:(0:Int)≤(j:Int):=by omega
  have n2:((j:Int)<(x.zR.length:Int)):=by omega
  have n3:((j:Int)+1<(x.zR.length:Int)):=by omega
  have n4:(0:Int)≤(j:Int)+1:=by omega
  by_cases q1:ClipOk y
  rotate_left
  ·have a1:=yZ q1;have Q1:=hide q1;clear q1
   go_wp2
   have g0:=yG p0
   have g1:=yG cy3
   have g2:=yG cz3
   refine xD (by kernel_rfl) (by kernel_rfl) ?_
   repeat(first|go_big_quiet_skip|(go_big_quiet_want;go_big_quiet_op;first|go_big_quiet_on|(apply Exists.intro;refine⟨fun _=>?_,?_⟩;(· (go_at_call 157;exact Calls.yL ((c_l23Clip y _ _ _ (T.at_below HAy.out (yJ HB.out HB.out.size (yH wr _)))).mono (fun e w' h=>by rw[a1] at h;exact h))));go_big_quiet_on)))
   refine wpQuiet_nil ?_
   rintro w9 ⟨uu,rfl⟩
   have hb9:=yH wr uu
   generalize bel wr uu=w9 at *
   have HB9:=hide (yJ HB.out HB.out.size hb9);clear g0 g1 g2
   have HW9:=hide (yJ HW.out HW.out.size hb9);clear hb9
   go_wp2
   go_ret
   exact⟨yI (yZ fun h=>Q1.out (h.clips (j+1) y HG.out).1).symm,HB9.out⟩
  have a1:=xA q1;have Q1:=hide q1;clear q1
  by_cases q2:y.zX<z.zX
  ·have q2':decide (y.zX<z.zX)=true:=decide_eq_true q2;have Q2:=hide q2
   go_wp2
   have g0:=yG p0
   have g1:=yG cy3
   have g2:=yG cz3
   refine xD (by kernel_rfl) (by kernel_rfl) ?_
   repeat(first|go_big_quiet_skip|(go_big_quiet_want;go_big_quiet_op;first|go_big_quiet_on|(apply Exists.intro;refine⟨fun _=>?_,?_⟩;(· (go_at_call 157;exact Calls.yL ((c_l23Clip y _ _ _ (T.at_below HAy.out (yJ HB.out HB.out.size (yH wr _)))).mono (fun e w' h=>by rw[a1] at h;exact h))));go_big_quiet_on)))
   refine wpQuiet_nil ?_
   rintro w9 ⟨uu,rfl⟩
   have hb9:=yH wr uu
   generalize bel wr uu=w9 at *
   have HB9:=hide (yJ HB.out HB.out.size hb9);clear g0 g1 g2
   have HW9:=hide (yJ HW.out HW.out.size hb9);clear hb9
   go_wp2
   go_ret
   exact⟨yI (yZ fun h=>by have:=(h.clips (j+1) y HG.out).2 z (by omega) HJ.out;have:=Q2.out;omega).symm,HB9.out⟩
  have q2':decide (y.zX<z.zX)=false:=decide_eq_false q2
  go_wp2
  have g0:=yG p0
  have g1:=yG cy3
  have g2:=yG cz3
  refine xD (by kernel_rfl) (by kernel_rfl) ?_
  repeat(first|go_big_quiet_skip|(go_big_quiet_want;go_big_quiet_op;first|go_big_quiet_on|(apply Exists.intro;refine⟨fun _=>?_,?_⟩;(· (go_at_call 157;exact Calls.yL ((c_l23Clip y _ _ _ (T.at_below HAy.out (yJ HB.out HB.out.size (yH wr _)))).mono (fun e w' h=>by rw[a1] at h;exact h))));go_big_quiet_on)))
  refine wpQuiet_nil ?_
  rintro w9 ⟨uu,rfl⟩
  have hb9:=yH wr uu
  generalize bel wr uu=w9 at *
  have HB9:=hide (yJ HB.out HB.out.size hb9);clear g0 g1 g2
  have HW9:=hide (yJ HW.out HW.out.size hb9);clear hb9
  go_wp2
  go_roundw
  case rel=>exact⟨j+1+1,by omega,by go_num,HS.out.step HG.out ⟨Q1.out,fun p _ hp=>by rw[Nat.add_sub_cancel,HJ.out] at hp;injection hp with hp;subst hp;omega⟩,HW9.out⟩
  case measure=>simp[intOf];omega
theorem c_sValidTrack (x:xI) (cs:List Value) (w:World) (h:T.rds w x.fs cs):Calls Tryz.prog 179 #[.agg cs.toArray] w fun e w'=>e= .returned (.bool (tf (TrackOk x)))∧Below w.heap.size w w':=by
 obtain⟨v0,rfl,h0⟩:=xI.yO h
 clear h
 have R0:=hide h0;obtain⟨va0,vc0,rfl,vl0,vm0,vx0⟩:=T.yN h0
 have HX0:=hide vx0;clear vx0 h0
 have HB0:=hide (show Below w.heap.size w (w.alloc (.cells #[(.slice va0 x.zR.length vc0)] 96)) from(Below.refl _ _).alloc (Nat.le_refl _) _)
 have HK0:=hide (Bk.born w 96 #[(.slice va0 x.zR.length vc0)])
 go_enter Tryz.func179,Tryz.ntmps179
 go_wp2_with fail
 refine(c_l23Ok x _ _ _ (T.at_bk HK0.out (xI.rd_mk (T.yF R0.out HB0.out)))).mono ?_;rintro e w1 ⟨rfl,hd⟩
 have H1:=hide (yJ HB0.out HB0.out.size hd);clear hd
 go_wp2
 go_ret
 exact⟨rfl,H1.out⟩
theorem c_l27Track (x:xI) (b o:Nat) (n:Int) (w:World) (n0:0≤n) (n1:n≤1048576) (h:T.at w x.fs b o):Calls Tryz.prog 124 #[.pointer (some ⟨b,o,none⟩),.int .i64 n] w fun e w'=>e= .returned (.bool (tf (TrackOk x∧Each x.zR fun _ c=>c.zU<n)))∧Below w.heap.size w w':=by
 have HAT:=hide h
 obtain⟨hlt0,cs,hr,hc⟩:=h
 obtain⟨v0,rfl,h0⟩:=xI.yO hr
 clear hr
 have R0:=hide h0;obtain⟨va0,vc0,rfl,vl0,vm0,vx0⟩:=T.yN h0
 have HX0:=hide vx0;clear vx0 h0
 have HL:=hide hlt0;have HCC:=hide hc;have HB0:=hide (Below.refl w.heap.size w);clear hlt0 hc
 have p0:w.cell? ⟨b,o,none⟩=some (.slice va0 x.zR.length vc0):=(HB0.out.cell HL.out).trans (HCC.out 0 _ rfl)
 have lb:b<w.heap.size:=lL HL.out HB0.out.size
 go_enter Tryz.func124,Tryz.ntmps124
 go_wp2
 clear p0 lb
 go_loopw [5] (fun i wr=> ∃ k:Nat,k≤x.zR.length∧i= .int .i64 k∧vI x.zR (fun _ c=>inB c.zU 0 (n - 1)=true) k∧Below w.heap.size w wr) (fun i _=>x.zR.length - (intOf i).toNat)
 case atStart=>exact⟨0,Nat.zero_le _,rfl,vI.zero,Below.refl _ _⟩
 case round=>
  obtain⟨k,hk,rfl,hs,hbw⟩:=hrel
  have HS:=hide hs;have HW:=hide hbw;have HB:=hide (yJ HB0.out HB0.out.size hbw);clear hs hbw
  have p0:wr.cell? ⟨b,o,none⟩=some (.slice va0 x.zR.length vc0):=(HB.out.cell HL.out).trans (HCC.out 0 _ rfl)
  have lb:b<wr.heap.size:=lL HL.out HB.out.size
  by_cases hlt:k<x.zR.length
  rotate_left
  ·have hall:=hide (HS.out.all (by omega));clear HS
   go_wp2_with fail
   refine(c_sValidTrack x _ _ (xI.rd_mk (T.yF R0.out HB.out))).mono ?_;rintro e w2 ⟨rfl,hb2⟩
   have H2:=hide (yJ HB.out HB.out.size hb2);clear hb2
   go_wp2
   go_ret
   exact⟨yI (tf_iff ⟨fun h=>⟨h,fun i c hc=>by have:=xC.1 (hall.out i c hc);omega⟩,fun h=>h.1⟩),H2.out⟩
  have hgk:=gE hlt
  obtain⟨b1,off,csy,hA,hb1,hcs,hcell⟩:=HX0.out k x.zR[k] hgk
  subst hA
  generalize x.zR[k]=y at *
  have HG:=hide hgk;clear hgk
  have HAy:=hide (T.at_elem (o:=off+k * 5) hb1 (show T.rds w y.fs csy by simpa only[xL.t,T.rd] using hcs) hcell (by omega));clear hcs hcell
  obtain⟨_,csy',hry,hcy⟩:=HAy.out
  obtain rfl:=xL.yO hry
  have cy0:wr.cell? ⟨b1,off+k * 5,none⟩=some (.int .i64 y.zU):=(HB.out.cell hb1).trans (hcy 0 _ rfl)
  have hq1:b1<wr.heap.size:=lL hb1 HB.out.size
  clear hry hcy
  by_cases q1:inB y.zU 0 (n - 1)=true
  rotate_left
  ·have q1':inB y.zU 0 (n - 1)=false:=(by simpa using q1)
   go_wp2_with (go_at_call 87;refine(xX _ _ _ _).mono ?_;rintro e w' ⟨rfl,rfl⟩)
   go_ret
   exact⟨yI (yZ fun h=>by have h1:=(h.1.clips k y HG.out).1.source;have h2:=h.2 k y HG.out;exact q1 (xC.2 ⟨(xC.1 h1).1,by omega⟩)).symm,HB.out⟩
  go_wp2_with (go_at_call 87;refine(xX _ _ _ _).mono ?_;rintro e w' ⟨rfl,rfl⟩)
  go_roundw
  case rel=>exact⟨k+1,by omega,by go_num,HS.out.step HG.out q1,HW.out⟩
  case measure=>simp[intOf];omega
theorem c_sl01Small (x:Nat) (w:World):Calls Tryz.prog 266 #[.int .u8 (x:Int)] w fun e w'=>e= .returned (.bool (decide (97≤x∧x≤122)))∧w=w':=by
 by_cases h:97≤x
 all_goals
  go_enter Tryz.func266,Tryz.ntmps266
  go_wp2
  go_ret
  exact⟨yI (by by_cases h2:x≤122<;>first|rfl|(simp[h,h2];done)|(simp[h,h2];omega)),rfl⟩
theorem c_sl01Digit (x:Nat) (w:World):Calls Tryz.prog 267 #[.int .u8 (x:Int)] w fun e w'=>e= .returned (.bool (decide (48≤x∧x≤57)))∧w=w':=by
 by_cases h:48≤x
 all_goals
  go_enter Tryz.func267,Tryz.ntmps267
  go_wp2
  go_ret
  exact⟨yI (by by_cases h2:x≤57<;>first|rfl|(simp[h,h2];done)|(simp[h,h2];omega)),rfl⟩
theorem ne_of_size {s:ByteArray} (h:1≤s.size):s.toList.isEmpty=false:=by
 rw[toList_eq]
 have hl:s.data.toList.length=s.size:=by rw[Array.length_toList];rfl
 generalize s.data.toList=l at *
 cases l with
 |nil=>simp at hl;omega
 |cons a t=>rfl
theorem c_sIsName (s:ByteArray) (w:World):Calls Tryz.prog 230 #[.string s] w fun e w'=>e= .returned (.bool (tf (NameOk s)))∧w=w':=by
 by_cases h1:1≤s.size
 rotate_left
 ·have hs:s=ByteArray.empty:=by apply ByteArray.ext;apply Array.toList_inj.1;apply List.eq_nil_of_length_eq_zero;rw[Array.length_toList];have:s.data.size=s.size:=rfl;omega
  subst hs
  go_enter Tryz.func230,Tryz.ntmps230
  go_wp2
  go_ret
  exact⟨yI (yZ fun h=>h1 h.some_).symm,rfl⟩
 have hne:=ne_of_size h1
 have HNE:=hide hne
 by_cases h2:s.size≤10
 rotate_left
 ·go_enter Tryz.func230,Tryz.ntmps230
  go_wp2
  go_ret
  exact⟨yI (yZ fun h=>h2 h.few).symm,rfl⟩
 have hg0:=bA_get (s:=s) (n:=0) (by omega)
 have hb0:=bA_lt s 0
 by_cases h3:97≤bA s 0∧bA s 0≤122
 rotate_left
 ·have d0:decide (97≤bA s 0∧bA s 0≤122)=false:=decide_eq_false h3
  have H3:=hide h3;clear h3
  go_enter Tryz.func230,Tryz.ntmps230
  go_wp2_with (first|(go_at_call 266;refine(c_sl01Small _ _).mono ?_;rintro e w' ⟨rfl,rfl⟩)|(go_at_call 267;refine(c_sl01Digit _ _).mono ?_;rintro e w' ⟨rfl,rfl⟩))
  go_ret
  exact⟨yI (yZ fun h=>by rcases h.each 0 (by omega) with h|h<;>(simp only[smallN,digitN] at h;have:=H3.out;omega)).symm,rfl⟩
 have d0:decide (97≤bA s 0∧bA s 0≤122)=true:=decide_eq_true h3
 have H3:=hide h3;clear h3
 go_enter Tryz.func230,Tryz.ntmps230
 go_wp2_with (first|(go_at_call 266;refine(c_sl01Small _ _).mono ?_;rintro e w' ⟨rfl,rfl⟩)|(go_at_call 267;refine(c_sl01Digit _ _).mono ?_;rintro e w' ⟨rfl,rfl⟩))
 go_loop [3] (fun i=> ∃ k:Nat,k≤s.size∧i= .int .i64 k∧ ∀ i,i<k→smallN (bA s i)∨digitN (bA s i)) (fun i=>s.size - (intOf i).toNat)
 case atStart=>exact⟨0,Nat.zero_le _,rfl,fun i h=>absurd h (by omega)⟩
 case round=>
  obtain⟨k,hk,rfl,hs⟩:=hrel
  have HS:=hide hs;clear hs hg0 hb0 d0
  by_cases hlt:k<s.size
  ·have hb:=bA_lt s k
   have hg:=bA_get hlt
   generalize hy:bA s k=y at *
   have HY:=hide hy;clear hy
   by_cases a1:97≤y∧y≤122
   ·have d1:decide (97≤y∧y≤122)=true:=decide_eq_true a1
    have A1:=hide a1;clear a1
    go_wp2_with (first|(go_at_call 266;refine(c_sl01Small _ _).mono ?_;rintro e w' ⟨rfl,rfl⟩)|(go_at_call 267;refine(c_sl01Digit _ _).mono ?_;rintro e w' ⟨rfl,rfl⟩))
    go_round
    case rel=>exact⟨k+1,by omega,by go_num,fun i hi=>by
     by_cases e:i=k
     ·subst e;rw[HY.out];exact .inl A1.out
     ·exact HS.out i (by omega)⟩
    case measure=>simp[intOf];omega
   ·have d1:decide (97≤y∧y≤122)=false:=decide_eq_false a1
    have A1:=hide a1;clear a1
    by_cases a2:48≤y∧y≤57
    ·have d2:decide (48≤y∧y≤57)=true:=decide_eq_true a2
     have A2:=hide a2;clear a2
     go_wp2_with (first|(go_at_call 266;refine(c_sl01Small _ _).mono ?_;rintro e w' ⟨rfl,rfl⟩)|(go_at_call 267;refine(c_sl01Digit _ _).mono ?_;rintro e w' ⟨rfl,rfl⟩))
     go_round
     case rel=>exact⟨k+1,by omega,by go_num,fun i hi=>by
      by_cases e:i=k
      ·subst e;rw[HY.out];exact .inr A2.out
      ·exact HS.out i (by omega)⟩
     case measure=>simp[intOf];omega
    ·have d2:decide (48≤y∧y≤57)=false:=decide_eq_false a2
     have A2:=hide a2;clear a2
     go_wp2_with (first|(go_at_call 266;refine(c_sl01Small _ _).mono ?_;rintro e w' ⟨rfl,rfl⟩)|(go_at_call 267;refine(c_sl01Digit _ _).mono ?_;rintro e w' ⟨rfl,rfl⟩))
     go_ret
     exact⟨yI (yZ fun h=>by
      rcases h.each k hlt with h|h<;>rw[HY.out] at h<;>(simp only[smallN,digitN] at h;have:=A1.out;have:=A2.out;omega)).symm,rfl⟩
  ·go_wp2
   go_ret
   exact⟨yI (xA ⟨h1,h2,fun i hi=>by
    rcases HS.out i (by omega) with h|h
    ·exact .inl h
    ·by_cases e:i=0
     ·subst e;exact .inl H3.out
     ·exact .inr ⟨h,e⟩⟩).symm,rfl⟩
end
section
open Go.Lib
theorem decDigits_small {u:Nat} (h:u<10):decDigits u= [UInt8.ofNat (48+u)]:=by rw[decDigits,dif_pos h]
theorem decDigits_big {u:Nat} (h: ¬ u<10):decDigits u=decDigits (u / 10)++ [UInt8.ofNat (48+u % 10)]:=by rw[decDigits,dif_neg h]
/-- The digits that are there already, when a number is taken apart from behind. -/
def preD (u:Nat):List UInt8:=if u=0 then [] else decDigits u
theorem preD_step {u:Nat} (h:u≠0):preD u=preD (u / 10)++ [UInt8.ofNat (48+u % 10)]:=by
 unfold preD
 rw[if_neg h]
 by_cases h1:u<10
 ·rw[decDigits_small h1,if_pos (by omega)]
  have:u % 10=u:=by omega
  rw[this];rfl
 ·rw[decDigits_big h1,if_neg (by omega)]
theorem preD_len (k:Nat): ∀ u,u<10 ^ k→(preD u).length≤k:=by
 induction k with
 |zero=>
      intro u h;have:u=0:=by simpa using h
      subst this;simp[preD]
 |succ k ih=>
  intro u h
  by_cases h0:u=0
  ·subst h0;simp[preD]
  ·rw[preD_step h0,List.length_append]
   have:=ih (u / 10) (by rw[Nat.pow_succ] at h;omega)
   simp;omega
end
end Go.Proofs.YtoibekfhepnedaaGreat
