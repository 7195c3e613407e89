/- Words: a slice of elements opened; a struct behind a pointer. Draws: a source of numbers that goes along while data are made. Growing a slice of data of the call's own, one element at a time. No program is named here. Memory of data that are being made: items that lie apart. No program is named here. Draws in few words: the memory, the source and the size step together. One element of a slice of the call's own turned. No program is named here. copy between slices whose elements take several cells. No program is named here. A slice of the call's own that grows beside other data of its own. No program is named here. Contracts: differences of an order; PredictSignal of both sides. -/
import Derived.Test.YtdcofkabaigjpaaGreatQAbEdits
import Derived.Test.YtdcofkabaigjpaaGreatQAaEdits
import Derived.Deep.RegionHeld3
import Derived.Deep.RegionHeldLaw
import Derived.Laws.CopyOwn
import Derived.Lib.Overlaps
import Derived.Lib.AppendZeros
import Derived.Deep.RegionWith
set_option linter.unusedVariables false
set_option linter.unusedSimpArgs false
set_option maxHeartbeats 400000
namespace Go.Proofs.YtdcofkabaigjpaaGreat
section
open Go.RowKit
theorem T.yS {w:World} {E:TypeId} {sz:Nat} {α:Type} {tr:α→T} {xs:List α} {v:Value} (h:T.rd w (.sl E sz (xs.map tr)) [v]):
  ∃ A cap,v= .slice A xs.length cap∧xs.length≤cap∧cap≤9223372036854775807∧
   (∀ k x,xs[k]?=some x→ ∃ b off cs,A=some ⟨b,off,none⟩∧b<w.heap.size∧T.rd w (tr x) cs∧ ∀ j u,cs[j]?=some u→w.cell? ⟨b,off+(k * sz+j),none⟩=some u):=by
 obtain⟨A,cap,hv,h1,h2,h3⟩:=T.yT h;rw[List.length_map] at hv h1;exact⟨A,cap,hv,h1,h2,fun k x hk=>h3 k (tr x) (by rw[List.getElem?_map,hk];rfl)⟩
theorem T.rds_below' {w w':World} {x:List T} {cs:List Value} (h:T.rds w x cs) (hb:Below w.heap.size w w'):T.rds w' x cs:=T.rds_keep hb.size hb.block x cs h
def T.at (w:World) (fs:List T) (b o:Nat):Prop:=b<w.heap.size∧ ∃ cs,T.rds w fs cs∧ ∀ j u,cs[j]?=some u→w.cell? ⟨b,o+j,none⟩=some u
theorem T.at_below {w w':World} {fs:List T} {b o:Nat} (h:T.at w fs b o) (hb:Below w.heap.size w w'):T.at w' fs b o:=by
 obtain⟨h1,cs,h2,h3⟩:=h;exact⟨zW h1 hb.size,cs,T.rds_below' h2 hb,fun j u hj=>(hb.cell h1).trans (h3 j u hj)⟩
theorem T.at_elem {w:World} {fs:List T} {b off k sz o:Nat} {cs:List Value} (hb:b<w.heap.size) (h:T.rds w fs cs) (hc: ∀ j u,cs[j]?=some u→w.cell? ⟨b,off+(k * sz+j),none⟩=some u) (ho:o=off+k * sz):T.at w fs b o:=
 ⟨hb,cs,h,fun j u hj=>by rw[ho,Nat.add_assoc];exact hc j u hj⟩
theorem T.at_bk {w:World} {fs:List T} {b:Nat} {t:TypeId} {cs:List Value} (hk:Bk w b t cs.toArray) (h:T.rds w fs cs):T.at w fs b 0:=
 ⟨hk.lt,cs,h,fun j u hj=>by rw[Nat.zero_add,hk.cell j];simpa using hj⟩
theorem yZ {a b:Int} (h:a≠b):(a == b)=false:=beq_false_of_ne h
theorem xA {a b:Int} (h:a=b):(a == b)=true:=by simp[h]
theorem ySz {a b:Int} (h:a≠b):(a != b)=true:=by simp[h]
theorem yTz {a b:Int} (h:a=b):(a != b)=false:=by simp[h]
noncomputable def bel (W u:World):World:= @ite _ (Below W.heap.size W u) (Classical.propDecidable _) u W
theorem yM (W u:World):Below W.heap.size W (bel W u):=by
 unfold bel
 split
 ·assumption
 ·exact zR
theorem bel_of {W u:World} (h:Below W.heap.size W u):u=bel W u:=by
 unfold bel;rw[if_pos h]
theorem yK {W:World} {b o:Nat} {v:Value} (h:W.cell? ⟨b,o,none⟩=some v): ∀ u,(bel W u).cell? ⟨b,o,none⟩=some v:=fun u=>
 ((yM W u).cell (World.block_lt_of_cell? W _ h)).trans h
theorem xM {W:World} {g:Nat} {t:TypeId} {cs:Array Value} (h:Bk W g t cs): ∀ u i,(bel W u).cell? ⟨g,i,none⟩=cs[i]?:=fun u i=>
 (h.below (yM W u) h.lt).cell i
theorem xL {P:Program} {id:Nat} {Q:Exit→Act→World→Prop} {a:Act} {w:World} {l:List Oper} (hm:P.follows .mixedOrders=true) (hB:Region.lexB .any l.toArray=true)
  (h:wpQuiet P l.toArray (fun w'=> ∃ u,w'=bel w u) (fun a'=> ∀ w',(∃ u,w'=bel w u)→Q .normal a' w') l a):(Code.region id l.toArray true).wp P Q a w:=
 wp_region_quiet (C:=fun w'=> ∃ u,w'=bel w u) hm hB ⟨_,bel_of ⟨rfl,rfl,rfl,zJ,fun _ _=>rfl⟩⟩ (by simpa using h)
theorem Calls.yQ {P:Program} {f:FuncId} {args:Array Value} {w u:World} {v:Value}
  (h:Calls P f args (bel w u) fun e w'=>e= .returned v∧Below (bel w u).heap.size (bel w u) w'):Calls P f args (bel w u) fun e w''=>e= .returned v∧ ∃ m,w''=bel w m:=
 h.mono fun _ w' ⟨he,hb⟩=>⟨he,w',bel_of (yO (yM w u) (yM w u).size hb)⟩
theorem Calls.yP {P:Program} {f:FuncId} {args:Array Value} {w u:World} {v:Value}
  (h:Calls P f args (bel w u) fun e w'=>e= .returned v∧bel w u=w'):Calls P f args (bel w u) fun e w''=>e= .returned v∧ ∃ m,w''=bel w m:=
 h.mono fun _ w' ⟨he,hb⟩=>⟨he,u,hb.symm⟩
theorem oG {w:World} {E:TypeId} {sz:Nat} {α:Type} {tr:α→T} {xs:List α} {v:Value} (h:T.rd w (.sl E sz (xs.map tr)) [v]):
  ∃ A cap,v= .slice A xs.length cap∧xs.length≤cap∧cap≤9223372036854775807∧Sec (T.rd w (.sl E sz (xs.map tr)) [.slice A xs.length cap])∧
   Sec (∀ k x,xs[k]?=some x→ ∃ b off cs,A=some ⟨b,off,none⟩∧b<w.heap.size∧T.rd w (tr x) cs∧ ∀ j u,cs[j]?=some u→w.cell? ⟨b,off+(k * sz+j),none⟩=some u):=by
 obtain⟨A,cap,rfl,h1,h2,h3⟩:=T.yS h;exact⟨A,cap,rfl,h1,h2,xN h,xN h3⟩
theorem oI {w:World} {E:TypeId} {xs:List Int} {v:Value} (h:T.rd w (T.ints E xs) [v]): ∃ A cap,v= .slice A xs.length cap∧xs.length≤cap∧cap≤9223372036854775807∧Sec (RdI w (.slice A xs.length cap) xs)∧
  Sec (∀ k x,xs[k]?=some x→ ∃ b off,A=some ⟨b,off,none⟩∧b<w.heap.size∧w.cell? ⟨b,off+k,none⟩=some (.int .i64 x)):=by
 have hi:=T.xB.1 h;obtain⟨A,cap,rfl,h1,h2,h3⟩:=hi.open_;exact⟨A,cap,rfl,h1,h2,xN hi,xN h3⟩
theorem rB {P:Program} {id:Nat} {Q:Exit→Act→World→Prop} {a:Act} {w:World} {l:List Oper}
  (h:wpQuiet P l.toArray (fun w'=> ∃ u,w'=bel w u) (fun a'=> ∀ w',(∃ u,w'=bel w u)→Q .normal a' w') l a) (hm:P.follows .mixedOrders=true:=by kernel_rfl) (hB:Region.lexB .any l.toArray=true:=by kernel_rfl):(Code.region id l.toArray true).wp P Q a w:=xL hm hB h
end
section
open Go.RowKit
theorem trn_of_grown {g:Nat} {w w':World} (h:w.grownBy w' (some g)):Trn [g] w w':=
 ⟨h.os,h.tape,h.output,h.size,fun x hx hn=>h.block x hx (fun e=>hn (by injection e with e;simp[e]))⟩
structure Sx (w0 w:World) (g:Nat) (cv:Value) (bs:List UInt8) (a:Nat):Prop where
 src:Src w g cv a
 rd:RdY w cv bs
 len:bs.length≤1073741824
 gin:g<w0.heap.size
 cin:0<bs.length→ ∀ b,cv.ownBlock=some b→b<w0.heap.size
 apart:0<bs.length→ ∀ b,cv.ownBlock=some b→b≠g
 trn:Trn [g] w0 w
section
variable {w0 w w':World} {g a:Nat} {cv:Value} {bs:List UInt8}
theorem Sx.size (h:Sx w0 w g cv bs a):w0.heap.size≤w.heap.size:=h.trn.size
theorem Sx.keep (h:Sx w0 w g cv bs a) (hb:Below w0.heap.size w w'):Sx w0 w' g cv bs a:=by
 refine⟨?_,?_,h.len,h.gin,h.cin,h.apart,?_⟩
 ·obtain⟨z,hz,hk⟩:=h.src;exact⟨z,hz,hk.below hb h.gin⟩
 ·rcases Nat.eq_zero_or_pos bs.length with h0|h0
  ·exact h.rd.nil h0
  ·exact Rd.below_of h.rd hb (fun b e=>h.cin h0 b e)
 ·exact⟨hb.os.trans h.trn.os,hb.tape.trans h.trn.tape,hb.output.trans h.trn.output,Nat.le_trans h.trn.size hb.size,fun x hx hn=>(hb.block x hx).trans (h.trn.block x hx hn)⟩
theorem Sx.below (h:Sx w0 w g cv bs a) (hb:Below w.heap.size w w'):Sx w0 w' g cv bs a:=h.keep (yO zR h.size hb)
theorem Sx.base (h:Sx w0 w g cv bs a):Sx w w g cv bs a:=
 ⟨h.src,h.rd,h.len,zW h.gin h.size,fun h0 b e=>zW (h.cin h0 b e) h.size,h.apart,Trn.refl _ _⟩
theorem Sx.next {a2:Nat} (h:Sx w0 w g cv bs a) (k:Sx w w' g cv bs a2):Sx w0 w' g cv bs a2:=
 ⟨k.src,k.rd,k.len,h.gin,h.cin,h.apart,h.trn.trans k.trn⟩
theorem Sx.gr {a2:Nat} (h:Sx w0 w g cv bs a) (hs:Src w' g cv a2) (hg:w.grownBy w' (some g)):Sx w w' g cv bs a2:=
 ⟨hs,h.rd.gro hg h.apart,h.len,zW h.gin h.size,fun h0 b e=>zW (h.cin h0 b e) h.size,h.apart,trn_of_grown hg⟩
theorem Sx.drew (h:Sx w0 w g cv bs a):Sx w0 w.drew g cv bs a:=h.below ((Below.refl w.heap.size w).drew)
theorem Sx.alloc (h:Sx w0 w g cv bs a) (o:Obj):Sx w0 (w.alloc o) g cv bs a:=h.below (zR.alloc zJ o)
theorem Sx.set_ {b:Nat} (h:Sx w0 w g cv bs a) (hb:w0.heap.size≤b) (j:Nat) (u:Value):Sx w0 (w.setCell ⟨b,j,none⟩ u) g cv bs a:=h.keep (zR.setCell hb _)
theorem Sx.grown {row:Option Nat} (h:Sx w0 w g cv bs a) (hg:w.grownBy w' row) (hr: ∀ b,row=some b→w0.heap.size≤b):Sx w0 w' g cv bs a:=h.keep (zR.grown hg h.size hr)
theorem Sx.own {F:List Nat} {xs:List T} {cs:List Value} {B:Nat} (h:T.ows w xs F cs) (hF: ∀ b ∈ F,B≤b) (hg:g<B) (k:Trn [g] w w'):T.ows w' xs F cs:=
 T.ows_trn h k (fun b hb hm=>by simp at hm;have:=hF b hb;omega)
theorem Sx.bk {b:Nat} {t:TypeId} {cs:Array Value} (h:Bk w b t cs) (hb:b≠g) (k:Trn [g] w w'):Bk w' b t cs:=h.trn k (by simpa using hb)
theorem Sx.ints {B:Nat} {E:TypeId} {v:Value} {xs:List Int} (h:OwI E w B v xs) (hg:g<B) (k:Trn [g] w w'):OwI E w' B v xs:=
 yBz (fun b hb=>k.block b (h.lt b hb).2 (fun hm=>by simp at hm;have:=(h.lt b hb).1;omega)) h
def NumX (w:World) (g:Nat) (cv:Value) (bs:List UInt8) (a c:Nat) (p:Int→Prop) (e:Ending) (w':World):Prop:= ∃ (x:Int) (a2:Nat),e= .returned (.int .i64 x)∧p x∧a2≤a+c∧Sx w w' g cv bs a2
def BoolX (w:World) (g:Nat) (cv:Value) (bs:List UInt8) (a c:Nat) (e:Ending) (w':World):Prop:= ∃ (b:Bool) (a2:Nat),e= .returned (.bool b)∧a2≤a+c∧Sx w w' g cv bs a2
theorem wS {n:Int} (h:Sx w0 w g cv bs a) (ha:a≤1073700000) (hn:n≤60000):Calls Tryz.prog 18 #[.pointer (some ⟨g,0,none⟩),.int .i64 n] w (NumX w g cv bs a 2 (fun x=>0≤x∧(x<n∨x=0))):=by
 by_cases h1:1≤n
 ·obtain⟨m,rfl⟩: ∃ m:Nat,n=(m:Int):=⟨n.toNat,by omega⟩
  refine(c_pick g cv bs a m w h.src h.rd zM h.len h.apart zM).mono ?_;rintro e w' ⟨x,a2,rfl,hx,ha2,hs,hg⟩;exact⟨(x:Int),a2,rfl,⟨by omega,.inl zM⟩,ha2,h.gr hs hg.1⟩
 ·have t1:n≤1:=by omega
  have H:=xN h;clear h
  go_enter Tryz.func18,Tryz.ntmps18
  go_wp2;go_ret
  exact⟨0,a,rfl,⟨by omega,.inr rfl⟩,by omega,H.o.base⟩
theorem x_one {n:Int} (h:Sx w0 w g cv bs a) (ha:a≤1073700000) (hn:n≤60000):Calls Tryz.prog 20 #[.pointer (some ⟨g,0,none⟩),.int .i64 n] w (BoolX w g cv bs a 2):=by
 have H:=xN h;clear h
 go_enter Tryz.func20,Tryz.ntmps20
 go_wp2_with fail
 refine(wS H.o ha hn).mono ?_;rintro e w1 ⟨x,a2,rfl,hx,ha2,hs⟩;have HS:=xN hs;clear hs hx;go_wp2;go_ret
 exact⟨_,a2,rfl,ha2,HS.o⟩
theorem uP {v:Value} {xs:List Int} (h:Sx w0 w g cv bs a) (ha:a≤1073700000) (hv:RdI w v xs) (hl:1≤xs.length∧xs.length≤60000) (hvg: ∀ b,v.ownBlock=some b→b≠g):Calls Tryz.prog 36 #[.pointer (some ⟨g,0,none⟩),v] w (NumX w g cv bs a 2 (fun x=>x ∈ xs)):=by
 refine(c_among g cv v xs bs a w h.src h.rd hv hl zM h.len h.apart hvg).mono ?_;rintro e w' ⟨x,a2,rfl,hx,ha2,hs,hg⟩;exact⟨x,a2,rfl,hx,ha2,h.gr hs hg⟩
theorem yIz (h:Sx w0 w g cv bs a) (ha:a≤1073700000):Calls Tryz.prog 42 #[.pointer (some ⟨g,0,none⟩)] w (NumX w g cv bs a 10 Smp):=by
 refine(c_l01Draw g cv bs a w h.src h.rd zM h.len h.apart).mono ?_;rintro e w' ⟨x,a2,rfl,hx,ha2,hs,hg⟩;exact⟨x,a2,rfl,hx,ha2,h.gr hs hg⟩
end
end
section
open Go.RowKit
structure Own (B:Nat) (w:World) (x:T) (F:List Nat) (v:Value):Prop where
 ow:T.ow w x F [v]
 nodup:F.Nodup
 lo: ∀ b ∈ F,B≤b
mutual
theorem T.rd_cell {w:World} : ∀ (x:T) (cs:List Value),T.rd w x cs→ ∀ u ∈ cs,u.oneCell'=true
 | .num _,_,h=>by simp only[T.rd] at h;subst h;simp[Value.oneCell']
 | .str _,_,h=>by simp only[T.rd] at h;subst h;simp[Value.oneCell']
 | .sl _ _ _,_,h=>by
  simp only[T.rd] at h;obtain⟨v,es,rfl,_,hr,_⟩:=h;obtain⟨_,A,cap,rfl,_⟩:=hr;simp[Value.oneCell']
 | .st fs,cs,h=>by simp only[T.rd] at h;exact T.rds_cell fs cs h
theorem T.rds_cell {w:World} : ∀ (xs:List T) (cs:List Value),T.rds w xs cs→ ∀ u ∈ cs,u.oneCell'=true
 | [],_,h=>by simp only[T.rds] at h;subst h;simp
 |x :: xs,_,h=>by
  simp only[T.rds] at h;obtain⟨c1,c2,rfl,h1,h2⟩:=h;intro u hu
  rcases List.mem_append.1 hu with hu|hu
  ·exact T.rd_cell x c1 h1 u hu
  ·exact T.rds_cell xs c2 h2 u hu
end
theorem Own.lt {B:Nat} {w:World} {x:T} {F:List Nat} {v:Value} (h:Own B w x F v): ∀ b ∈ F,b<w.heap.size:=T.ow_lt _ _ _ h.ow
theorem Own.all {B:Nat} {w w':World} {x:T} {F:List Nat} {v:Value} (h:Own B w x F v) (hb:Below w.heap.size w w'):Own B w' x F v:=⟨T.ow_all h.ow hb,h.nodup,h.lo⟩
theorem Own.trn {B:Nat} {w w':World} {x:T} {F G:List Nat} {v:Value} (h:Own B w x F v) (k:Trn G w w') (hd: ∀ b ∈ F,b ∉ G):Own B w' x F v:=⟨T.ow_trn h.ow k hd,h.nodup,h.lo⟩
theorem Own.more {B B':Nat} {w:World} {x:T} {F:List Nat} {v:Value} (h:Own B w x F v) (hb:B'≤B):Own B' w x F v:=⟨h.ow,h.nodup,fun b m=>Nat.le_trans hb (h.lo b m)⟩
theorem Own.nil (B:Nat) (w:World) (E:TypeId) (sz:Nat):Own B w (.sl E sz []) [] (.slice none 0 0):=by
 refine⟨?_,List.nodup_nil,by simp⟩;simp only[T.ow];exact⟨_,[],[],rfl,by simp[Value.ownBlock],by simp,World.ownsRow_nil w 0 E sz,by simp[T.ows]⟩
theorem Own.app {B:Nat} {w:World} {E:TypeId} {sz:Nat} {xs:List T} {x:T} {F Fx:List Nat} {v:Value} {news:List Value} (h:Own B w (.sl E sz xs) F v) (hx:T.ow w x Fx news) (nx:Fx.Nodup) (lx: ∀ b ∈ Fx,B≤b)
  (hd: ∀ b ∈ F,b ∉ Fx) (hw:T.wide x=sz) (hB:B≤w.heap.size):
  ∃ es,w.ownsRow 0 E sz v xs.length es∧ ∀ v' w',w'.ownsRow 0 E sz v' (xs.length+1) (es++news)→w.grownBy w' v.ownBlock→(∀ k,v'.ownBlock=some k→v.ownBlock=some k∨w.heap.size≤k)→
   ∃ F',Own B w' (.sl E sz (xs++ [x])) F' v'∧ ∀ b ∈ F',b ∈ F∨b ∈ Fx∨w.heap.size≤b:=by
 obtain⟨ho,hn,hlo⟩:=h;simp only[T.ow] at ho;obtain⟨v0,es,G,e,rfl,hwd,hrow,hows⟩:=ho;injection e with e _;subst e;refine⟨es,hrow,fun v' w' hrow' hg hv=>⟨v'.ownBlock.toList++(G++Fx),⟨?_,?_,?_⟩,?_⟩⟩
 ·simp only[T.ow]
  refine⟨v',es++news,G++Fx,rfl,rfl,?_,by simpa using hrow',?_⟩
  ·intro y hy
   rcases List.mem_append.1 hy with hy|hy
   ·exact hwd y hy
   ·simp at hy;subst hy;exact hw
  ·refine T.ows_snoc (T.ows_keep _ _ _ (fun b hb=>?_) hows) (T.ow_keep _ _ _ (fun b hb=>?_) hx)
   ·exact hg.block b (T.ows_lt _ _ _ hows b hb) (fun e=>yYz hn b (by rw[←e];simp) hb)
   ·exact hg.block b (T.ow_lt _ _ _ hx b hb) (fun e=>hd b (List.mem_append.2 (.inl (by rw[←e];simp))) hb)
 ·rw[List.nodup_append]
  refine⟨by cases v'.ownBlock<;>simp,?_,?_⟩
  ·rw[List.nodup_append]
   exact⟨yY hn,nx,fun a ha b hb e=>hd a (List.mem_append.2 (.inr ha)) (e ▸ hb)⟩
  ·intro a ha b hb e
   subst e;have ha:v'.ownBlock=some a:=by simpa using ha
   rcases hv a ha with k|k
   ·rcases List.mem_append.1 hb with hb|hb
    ·exact yYz hn a (by rw[k];simp) hb
    ·exact hd a (List.mem_append.2 (.inl (by rw[k];simp))) hb
   ·rcases List.mem_append.1 hb with hb|hb
    ·have:=T.ows_lt _ _ _ hows a hb;omega
    ·have:=T.ow_lt _ _ _ hx a hb;omega
 ·intro b hb
  rcases List.mem_append.1 hb with hb|hb
  ·have hb:v'.ownBlock=some b:=by simpa using hb
   rcases hv b hb with k|k
   ·exact hlo b (List.mem_append.2 (.inl (by rw[k];simp)))
   ·omega
  ·rcases List.mem_append.1 hb with hb|hb
   ·exact hlo b (List.mem_append.2 (.inr hb))
   ·exact lx b hb
 ·intro b hb
  rcases List.mem_append.1 hb with hb|hb
  ·have hb:v'.ownBlock=some b:=by simpa using hb
   rcases hv b hb with k|k
   ·exact .inl (List.mem_append.2 (.inl (by rw[k];simp)))
   ·exact .inr (.inr k)
  ·rcases List.mem_append.1 hb with hb|hb
   ·exact .inl (List.mem_append.2 (.inr hb))
   ·exact .inr (.inl hb)
theorem Own.row {B:Nat} {w:World} {E:TypeId} {sz:Nat} {xs:List T} {F:List Nat} {v:Value} (h:Own B w (.sl E sz xs) F v): ∀ k,v.ownBlock=some k→B≤k:=by
 intro k hk;obtain⟨ho,hn,hlo⟩:=h;simp only[T.ow] at ho;obtain⟨v0,es,G,e,rfl,_⟩:=ho;injection e with e _;subst e;exact hlo k (List.mem_append.2 (.inl (by rw[hk];simp)))
theorem Own.mem {B:Nat} {w:World} {E:TypeId} {sz:Nat} {xs:List T} {F:List Nat} {v:Value} (h:Own B w (.sl E sz xs) F v): ∀ k,v.ownBlock=some k→k ∈ F:=by
 intro k hk;obtain⟨ho,hn,hlo⟩:=h;simp only[T.ow] at ho;obtain⟨v0,es,G,e,rfl,_⟩:=ho;injection e with e _;subst e;exact List.mem_append.2 (.inl (by rw[hk];simp))
theorem Own.born {B:Nat} {w:World} {E:TypeId} {sz:Nat} {v:Value} (h:w.ownsRow B E sz v 0 []):Own B w (.sl E sz []) v.ownBlock.toList v:=by
 refine⟨?_,by cases v.ownBlock<;>simp,fun b hb=>(h.lt b (by simpa using hb)).1⟩;simp only[T.ow];refine⟨v,[],[],rfl,by simp,by simp,?_,by simp[T.ows]⟩;exact zGz h (Nat.zero_le _)
theorem Own.below {B:Nat} {w w' w0:World} {E:TypeId} {sz:Nat} {xs:List T} {F:List Nat} {v:Value} (h:Own B w (.sl E sz xs) F v) (hb:Below B w0 w) (hB:B≤w.heap.size) (hg:w.grownBy w' v.ownBlock):Below B w0 w':=
 hb.grown hg hB (fun j hj=>h.row j hj)
theorem Bk.rd1 {w:World} {g:Nat} {t:TypeId} {ys:List Value} (h:Bk w g t ys.toArray):Rd w (.slice (some ⟨g,0,none⟩) 1 1) ys.length 1 ys:=
 ⟨by simp,_,1,rfl,zJ,by decide,fun _=>⟨g,0,rfl,h.lt,fun j u hj=>by rw[Nat.zero_add,h.cell j];simpa using hj⟩⟩
theorem T.ow_st {w:World} {fs:List T} {F:List Nat} {cs:List Value} (h:T.ows w fs F cs):T.ow w (.st fs) F cs:=by simp only[T.ow];exact h
theorem vY {A B:List Nat} (ha:A.Nodup) (hb:B.Nodup) (h: ∀ x ∈ A,x ∉ B):(A++B).Nodup:=by
 rw[List.nodup_append];exact⟨ha,hb,fun a h1 b h2 e=>h a h1 (e ▸ h2)⟩
section
variable {P:Program}
theorem yJz {w:World} {ops:Array Oper} {rest:List Oper} {o:Oper} {a:Act} {Q:Exit→Act→World→Prop} {news:Array Value} (hgd:o.guard=none) (s y:Operand) (t:TypeId)
  (ho:o.op= .call { callee:= .builtin .append,args:= #[s,y],argTypes:= #[t,t] }) (B:Nat) (e:TypeId) (z:Value) (size bytes:Nat) (ht:P.underlying t=some (.slice e))
  (hinfo:(P.info? e).map (fun i=>(i.zero,i.size,i.bytes))=some (some z,size,bytes)) (hzs:z.cells.size=size) (hsz:0<size)
  {v:Value} {xs:List T} {x:T} {F Fx:List Nat} (hs:a.eval s=v) (hown:Own B w (.sl e size xs) F v) (hx:T.ow w x Fx news.toList) (nx:Fx.Nodup) (lx: ∀ b ∈ Fx,B≤b) (hd: ∀ b ∈ F,b ∉ Fx) (hw:T.wide x=size)
  (hy:a.eval y= .slice (some ⟨w.heap.size,0,none⟩) 1 1) (hbytes:(xs.length+1) * bytes≤140737488355328) (h63:xs.length+1≤9223372036854775807) (hB:B≤w.heap.size)
  (h: ∀ v' w' F',Own B w' (.sl e size (xs++ [x])) F' v'→w.grownBy w' v.ownBlock→(∀ b ∈ F',b ∈ F∨b ∈ Fx∨w.heap.size≤b)→wpList P ops Q rest (a.put o.dst v') w'):
  wpList P ops Q (o :: rest) a (w.alloc (.cells news e)):=by
 obtain⟨es,hrow,hk⟩:=hown.app hx nx lx hd hw hB;refine uAz hgd s y t ho 0 e z size bytes ht hinfo hzs hsz v xs.length es hs hrow hy ?_ ?_ hbytes h63 (Nat.zero_le _) ?_
 ·have:=T.rd_len x _ (T.ow_rd _ _ _ hx)
  rw[hw] at this
  simpa using this
 ·exact T.rd_cell x _ (T.ow_rd _ _ _ hx)
 ·intro v' w' h1 h2 h3
  obtain⟨F',k1,k2⟩:=hk v' w' h1 h2 h3;exact h v' w' F' k1 h2 k2
end
theorem yGy {P:Program} {w:World} {ops:Array Oper} {o:Oper} {a:Act} {K:Act→World→Prop} {Q:Exit→Act→World→Prop} {E:Prop} (hgd:o.guard=none) (s x:Operand) (t:TypeId)
  (ho:o.op= .call { callee:= .builtin .append,args:= #[s,x],argTypes:= #[t,t] })
  (base:Nat) (e:TypeId) (z:Value) (size bytes:Nat) (ht:P.underlying t=some (.slice e)) (hinfo:(P.info? e).map (fun i=>(i.zero,i.size,i.bytes))=some (some z,size,bytes))
  (hzs:z.cells.size=size) (hsz:0<size)
  (v:Value) (n:Nat) (xs:List Value) (hs:a.eval s=v) (hown:w.ownsRow base e size v n xs)
  (y:Value) (m:Nat) (ys:List Value) (hx:a.eval x=y) (hr:Rd w y size m ys) (h1: ∀ u ∈ ys,u.oneCell'=true)
  (hbytes:(n+m) * bytes≤140737488355328) (h63:n+m≤maxLen) (hbase:base≤w.heap.size)
  (h: ∀ v' w',w'.ownsRow base e size v' (n+m) (xs++ys)→w.grownBy w' v.ownBlock→(∀ k,v'.ownBlock=some k→v.ownBlock=some k∨w.heap.size≤k)→K (a.put o.dst v') w'):
  if Region.wanted o (yielded ops a.tmps)=true then Oper.wp P o a w K Q else E:=by
 have hw:Region.wanted o (yielded ops a.tmps)=true:=by simp[Region.wanted,hgd]
 rw[if_pos hw];obtain⟨i0,hi,hz0,hz1,hz2⟩:=info_parts hinfo;obtain⟨hl,A,cap,rfl,hc1,hc2,hcell⟩:=hr
 rcases Nat.eq_zero_or_pos m with hm|hm
 ·subst hm
  have hn:ys= []:=List.eq_nil_of_length_eq_zero (by simpa using hl);subst hn
  have hrun:(Builtin.append_ #[t,t] o.type #[v,.slice A 0 cap]).run P w= .ok v w:=by
   rcases hown.2 with ⟨rfl,rfl⟩|⟨g,cap',cur,rfl,_,_,hnc,_⟩
   ·cases A<;>simp[Builtin.append_,run_underlying ht,sizeOf,typeInfo,hi,Builtin.lenOf,Builtin.firstCells,loadCells,loadCellsFrom]
   ·cases A<;>simp[Builtin.append_,run_underlying ht,sizeOf,typeInfo,hi,Builtin.lenOf,Builtin.firstCells,hnc,storeCells,loadCells,loadCellsFrom]
  unfold Oper.wp execOp;simp only[ho,resolve,invoke,builtin,Sem.run_bind,Sem.run_pure,Result.andThen_ok,List.map_toArray,List.map_cons,List.map_nil,hs,hx,hrun];exact h v w (by simpa using hown) (World.grownBy.refl _ _) fun k hk=> .inl hk
 ·obtain⟨b,off,rfl,hb,hcc⟩:=hcell hm
  refine wp_append_lies w s x t ho base e i0 z size bytes ht hi hz0 hz1 hz2 hzs hsz v n xs hs hown ⟨b,off,none⟩ m cap ys hx hl ?_ h1 hm h63 hbytes hbase _ rfl ?_
  ·intro j u hu
   rw[show (⟨b,off,none⟩:Addr).add j=⟨b,off+j,none⟩ by unfold Addr.add;split<;>simp_all];exact hcc j u hu
  ·intro g cap' w' h2 h3 h4 _
   refine h _ w' h2 h3 fun k hk=>?_
   injection hk with hk;subst hk
   rcases h4 with h4|h4
   ·exact .inl h4
   ·exact .inr (by rw[h4];exact zJ)
theorem wBz {P:Program} {w:World} {ops:Array Oper} {o:Oper} {a:Act} {K:Act→World→Prop} {Q:Exit→Act→World→Prop} {X:Prop} (hgd:o.guard=none) (s y:Operand) (t:TypeId)
  (ho:o.op= .call { callee:= .builtin .append,args:= #[s,y],argTypes:= #[t,t] }) (B:Nat) (e:TypeId) (z:Value) (size bytes:Nat) (ht:P.underlying t=some (.slice e))
  (hinfo:(P.info? e).map (fun i=>(i.zero,i.size,i.bytes))=some (some z,size,bytes)) (hzs:z.cells.size=size) (hsz:0<size)
  {v:Value} {xs:List T} {x:T} {F Fx:List Nat} {news:List Value} {g:Nat} (hs:a.eval s=v) (hown:Own B w (.sl e size xs) F v) (hy:a.eval y= .slice (some ⟨g,0,none⟩) 1 1) (hk:Bk w g e news.toArray)
  (hx:T.ow w x Fx news) (nx:Fx.Nodup) (lx: ∀ b ∈ Fx,B≤b) (hd: ∀ b ∈ F,b ∉ Fx) (hw:T.wide x=size)
  (hbytes:(xs.length+1) * bytes≤140737488355328) (h63:xs.length+1≤maxLen) (hB:B≤w.heap.size)
  (h: ∀ v' w' F',Own B w' (.sl e size (xs++ [x])) F' v'→w.grownBy w' v.ownBlock→(∀ b ∈ F',b ∈ F∨b ∈ Fx∨w.heap.size≤b)→K (a.put o.dst v') w'):
  if Region.wanted o (yielded ops a.tmps)=true then Oper.wp P o a w K Q else X:=by
 obtain⟨es,hrow,hk2⟩:=hown.app hx nx lx hd hw hB;have hl:news.length=size:=by rw[←hw];exact T.rd_len x _ (T.ow_rd _ _ _ hx)
 refine yGy hgd s y t ho 0 e z size bytes ht hinfo hzs hsz v xs.length es hs hrow _ 1 news hy (by rw[←hl];exact hk.rd1) (T.rd_cell x _ (T.ow_rd _ _ _ hx)) hbytes h63 (Nat.zero_le _) ?_;intro v' w' h1 h2 h3;obtain⟨F',k1,k2⟩:=hk2 v' w' h1 h2 h3;exact h v' w' F' k1 h2 k2
end
section
open Go.RowKit
structure Item where
 F:List Nat
 P:World→Prop
 keep: ∀ w w':World,(∀ b ∈ F,w'.heap[b]?=w.heap[b]?)→P w→P w'
 lt: ∀ w,P w→ ∀ b ∈ F,b<w.heap.size
def Item.bk (b:Nat) (t:TypeId) (cs:Array Value):Item:=
 ⟨[b],fun w=>Bk w b t cs,fun w w' h k=>(h b (by simp)).trans k,fun w k x hx=>by simp at hx;subst hx;exact Bk.lt k⟩
def Item.own (x:T) (F:List Nat) (v:Value):Item:=⟨F,fun w=>T.ow w x F [v],fun w w' h k=>T.ow_keep _ _ _ h k,fun w k=>T.ow_lt _ _ _ k⟩
def Item.ows (xs:List T) (F:List Nat) (cs:List Value):Item:=⟨F,fun w=>T.ows w xs F cs,fun w w' h k=>T.ows_keep _ _ _ h k,fun w k=>T.ows_lt _ _ _ k⟩
def Item.ints (E:TypeId) (v:Value) (xs:List Int):Item:=
 ⟨v.ownBlock.toList,fun w=>OwI E w 0 v xs,fun w w' h k=>yBz (fun b hb=>h b (by simpa using hb)) k,fun w k b hb=>(OwI.lt k b (by simpa using hb)).2⟩
structure FM (B:Nat) (w:World) (L:List Item):Prop where
 all: ∀ it ∈ L,it.P w
 nodup:(L.flatMap Item.F).Nodup
 lo: ∀ b ∈ L.flatMap Item.F,B≤b
section
variable {B:Nat} {w w':World} {L L1 L2:List Item} {it it' jt:Item}
theorem FM.nil (B:Nat) (w:World):FM B w []:=⟨by simp,by simp,by simp⟩
theorem FM.lt (h:FM B w L): ∀ b ∈ L.flatMap Item.F,b<w.heap.size:=by
 intro b hb;obtain⟨it,hi,hb⟩:=List.mem_flatMap.1 hb;exact it.lt w (h.all it hi) b hb
theorem FM.perm (h:FM B w L) (hp:L.Perm L1):FM B w L1:=
 ⟨fun it hi=>h.all it (hp.mem_iff.2 hi),(hp.flatMap_right Item.F).nodup_iff.1 h.nodup,fun b hb=>h.lo b ((hp.flatMap_right Item.F).mem_iff.2 hb)⟩
theorem erase_perm {α:Type _} : ∀ (l:List α) (i:Nat) (hi:i<l.length),(l[i] :: l.eraseIdx i).Perm l
 |a :: t,0,_=>List.Perm.refl _
 |a :: t,i+1,hi=>by
  have hi':i<t.length:=by simpa using hi
  exact((List.Perm.swap a t[i] (t.eraseIdx i)).symm.symm).trans ((erase_perm t i hi').cons a)
theorem FM.front (h:FM B w L) (i:Nat) (hi:i<L.length):FM B w (L[i] :: L.eraseIdx i):=h.perm (erase_perm L i hi).symm
theorem FM.head (h:FM B w (it :: L)):it.P w:=h.all it (by simp)
theorem FM.tail (h:FM B w (it :: L)):FM B w L:=by
 have hn:=h.nodup;rw[List.flatMap_cons,List.nodup_append] at hn;exact⟨fun jt hj=>h.all jt (by simp[hj]),hn.2.1,fun b hb=>h.lo b (by rw[List.flatMap_cons];exact List.mem_append_right _ hb)⟩
theorem FM.apart (h:FM B w (it :: L)) {b:Nat} (hb:b ∈ it.F) (hb2:b ∈ L.flatMap Item.F):False:=by
 have hn:=h.nodup;rw[List.flatMap_cons,List.nodup_append] at hn;exact hn.2.2 b hb b hb2 rfl
theorem FM.fnodup (h:FM B w (it :: L)):it.F.Nodup:=by
 have hn:=h.nodup;rw[List.flatMap_cons,List.nodup_append] at hn;exact hn.1
theorem FM.flo (h:FM B w (it :: L)): ∀ b ∈ it.F,B≤b:=fun b hb=>h.lo b (by rw[List.flatMap_cons];exact List.mem_append_left _ hb)
theorem FM.keep {G:List Nat} (h:FM B w L) (k:Trn G w w') (hG: ∀ b ∈ L.flatMap Item.F,b ∉ G):FM B w' L:=
 ⟨fun it hi=>it.keep w w' (fun b hb=>k.block b (it.lt w (h.all it hi) b hb) (hG b (List.mem_flatMap.2 ⟨it,hi,hb⟩))) (h.all it hi),h.nodup,h.lo⟩
theorem FM.below (h:FM B w L) (hb:Below w.heap.size w w'):FM B w' L:=h.keep (G:= []) (Trn.of_below hb) (fun _ _=>by simp)
theorem FM.src {g:Nat} (h:FM B w L) (hg:g<B) (k:Trn [g] w w'):FM B w' L:=h.keep k (fun b hb hm=>by simp at hm;have:=h.lo b hb;omega)
theorem FM.drew (h:FM B w L):FM B w.drew L:=h.below ((Below.refl w.heap.size w).drew)
theorem FM.give (h:FM B w (L1++L)) (k:Trn (L1.flatMap Item.F) w w') (hP: ∀ it ∈ L2,it.P w') (hn:(L2.flatMap Item.F).Nodup) (hF: ∀ b ∈ L2.flatMap Item.F,b ∈ L1.flatMap Item.F∨w.heap.size≤b) (hB:B≤w.heap.size):FM B w' (L2++L):=by
 have hn0:=h.nodup;rw[List.flatMap_append,List.nodup_append] at hn0;have hr:FM B w L:=⟨fun jt hj=>h.all jt (List.mem_append_right _ hj),hn0.2.1,fun b hb=>h.lo b (by rw[List.flatMap_append];exact List.mem_append_right _ hb)⟩;have hr':=hr.keep k (fun b hb hm=>hn0.2.2 b hm b hb rfl);refine⟨fun jt hj=>(List.mem_append.1 hj).elim (hP jt) (hr'.all jt),?_,?_⟩
 ·rw[List.flatMap_append,List.nodup_append]
  refine⟨hn,hn0.2.1,fun a ha b hb e=>?_⟩;subst e
  rcases hF a ha with h1|h1
  ·exact hn0.2.2 a h1 a hb rfl
  ·have:=hr.lt a hb;omega
 ·intro b hb
  rw[List.flatMap_append] at hb
  rcases List.mem_append.1 hb with hb|hb
  ·rcases hF b hb with h1|h1
   ·exact h.lo b (by rw[List.flatMap_append];exact List.mem_append_left _ h1)
   ·omega
  ·exact hr.lo b hb
theorem FM.turn (h:FM B w (it :: L)) (k:Trn it.F w w') (hP:it'.P w') (hn:it'.F.Nodup) (hF: ∀ b ∈ it'.F,b ∈ it.F∨w.heap.size≤b) (hB:B≤w.heap.size):FM B w' (it' :: L):=
 FM.give (L1:= [it]) (L2:= [it']) h (by simpa using k) (by simpa using hP) (by simpa using hn) (by simpa using hF) hB
theorem FM.into (h:FM B w (it :: jt :: L)) (k:Trn it.F w w') (hP:it'.P w') (hn:it'.F.Nodup) (hF: ∀ b ∈ it'.F,b ∈ it.F∨b ∈ jt.F∨w.heap.size≤b) (hB:B≤w.heap.size):FM B w' (it' :: L):=
 FM.give (L1:= [it,jt]) (L2:= [it']) h (k.mono (fun b hb=>by simp[hb])) (by simpa using hP) (by simpa using hn) (fun b hb=>by
  have hb:b ∈ it'.F:=by simpa using hb
  rcases hF b hb with h1|h1|h1
  ·exact .inl (by simp[h1])
  ·exact .inl (by simp[h1])
  ·exact .inr h1) hB
theorem FM.add (h:FM B w L) (hw:Below w.heap.size w w') (hP:it.P w') (hn:it.F.Nodup) (hF: ∀ b ∈ it.F,w.heap.size≤b) (hB:B≤w.heap.size):FM B w' (it :: L):=
 FM.give (L1:= []) (L2:= [it]) h (Trn.of_below hw) (by simpa using hP) (by simpa using hn) (fun b hb=> .inr (hF b (by simpa using hb))) hB
theorem FM.vE (h:FM B w L) (i:Nat) (hi:L[i]?=some it) (k:Trn it.F w w') (hP:it'.P w') (hn:it'.F.Nodup) (hF: ∀ b ∈ it'.F,b ∈ it.F∨w.heap.size≤b) (hB:B≤w.heap.size):FM B w' (L.set i it'):=by
 have hl:=(List.getElem?_eq_some_iff.1 hi).1
 have e1:L=L.take i++it :: L.drop (i+1):=by
  rw[←(List.getElem?_eq_some_iff.1 hi).2,List.getElem_cons_drop hl,List.take_append_drop]
 have e2:L.set i it'=L.take i++it' :: L.drop (i+1):=List.set_eq_take_append_cons_drop .. |>.trans (if_pos hl)
 have h1:FM B w (it :: (L.take i++L.drop (i+1))):=h.perm (by
                                   conv=>lhs;rw[e1]
                                   exact List.perm_middle)
 rw[e2];exact(h1.turn k hP hn hF hB).perm List.perm_middle.symm
theorem FM.drop (h:FM B w L) (i:Nat) (hi:i<L.length):FM B w (L.eraseIdx i):=(h.front i hi).tail
theorem FM.back (h:FM B w (it :: L)) (i:Nat):FM B w (L.take i++it :: L.drop i):=
 h.perm (by
  have:=(List.perm_middle (a:=it) (l₁:=L.take i) (l₂:=L.drop i)).symm
  rwa [List.take_append_drop] at this)
theorem FM.get (h:FM B w L) (i:Nat) (hi:L[i]?=some it):it.P w:=h.all it (List.mem_of_getElem? hi)
theorem FM.ins (h:FM B w L) (hP:it.P w) (hF:it.F= []):FM B w (it :: L):=
 ⟨fun jt hj=>by rcases List.mem_cons.1 hj with rfl|hj;exact hP;exact h.all jt hj,by rw[List.flatMap_cons,hF];exact h.nodup,fun b hb=>h.lo b (by rw[List.flatMap_cons,hF] at hb;exact hb)⟩
theorem FM.addD {g:Nat} (h:FM B w L) (k:Trn [g] w w') (hg:g<B) (hP:it.P w') (hn:it.F.Nodup) (hF: ∀ b ∈ it.F,w.heap.size≤b) (hB:B≤w.heap.size):FM B w' (it :: L):=by
 have h1:=h.src hg k;refine⟨fun jt hj=>by rcases List.mem_cons.1 hj with rfl|hj;exact hP;exact h1.all jt hj,?_,?_⟩
 ·rw[List.flatMap_cons,List.nodup_append]
  exact⟨hn,h1.nodup,fun a ha b hb e=>by subst e;have h2:=hF a ha;have h3:=h.lt a hb;omega⟩
 ·intro b hb
  rw[List.flatMap_cons] at hb
  rcases List.mem_append.1 hb with hb|hb
  ·have:=hF b hb;omega
  ·exact h1.lo b hb
end
section
variable {B:Nat} {w w':World} {L:List Item}
theorem FM.addbk (h:FM B w L) (t:TypeId) (cs:Array Value) (hB:B≤w.heap.size):FM B (w.alloc (.cells cs t)) (Item.bk w.heap.size t cs :: L):=
 h.add (zR.alloc zJ _) (Bk.born w t cs) (by simp[Item.bk]) (fun x hx=>by simp[Item.bk] at hx;omega) hB
theorem FM.own {x:T} {F:List Nat} {v:Value} (h:FM B w (Item.own x F v :: L)):Own B w x F v:=⟨h.head,h.fnodup,h.flo⟩
theorem FM.ints {E:TypeId} {v:Value} {xs:List Int} (h:FM B w (Item.ints E v xs :: L)):OwI E w B v xs:=by
 have h0:OwI E w 0 v xs:=h.head;refine⟨h0.1,?_⟩
 rcases h0.2 with hn|⟨b,cap,cur,rfl,hbg,hb,rest⟩
 ·exact .inl hn
 ·exact .inr ⟨b,cap,cur,rfl,h.flo b (by simp[Item.ints,Value.ownBlock]),hb,rest⟩
theorem FM.setAt {b:Nat} {t:TypeId} {cs:Array Value} (h:FM B w L) (i:Nat) (hi:L[i]?=some (Item.bk b t cs)) (hB:B≤w.heap.size) (j:Nat) (u:Value):FM B (w.setCell ⟨b,j,none⟩ u) (L.set i (Item.bk b t (cs.setIfInBounds j u))):=
 h.vE (it:=Item.bk b t cs) (it':=Item.bk b t (cs.setIfInBounds j u)) i hi (Trn.set_ (show b ∈ [b] by simp) j u) (Bk.set_ (h.get i hi) j u) (by simp[Item.bk]) (fun x hx=> .inl hx) hB
end
end
section
open Go.RowKit
structure Y3 (w W:World) (g:Nat) (cv:Value) (bs:List UInt8) (a:Nat) (L:List Item):Prop where
 m:Sec (FM w.heap.size W L)
 s:Sec (Sx w W g cv bs a)
 z:w.heap.size≤W.heap.size
section
variable {w W:World} {g a:Nat} {cv:Value} {bs:List UInt8} {L:List Item}
theorem yU (m:Sec (FM w.heap.size W L)) (s:Sec (Sx w W g cv bs a)) (z:w.heap.size≤W.heap.size):Y3 w W g cv bs a L:=⟨m,s,z⟩
theorem yV (m:FM w.heap.size W L) (s:Sx w W g cv bs a) (z:w.heap.size≤W.heap.size):Y3 w W g cv bs a L:=⟨xN m,xN s,z⟩
theorem Y3.B (h:Y3 w W g cv bs a L) (t:TypeId) (cs:Array Value):Y3 w (W.alloc (.cells cs t)) g cv bs a (Item.bk W.heap.size t cs :: L):=
 yV (h.m.o.addbk t cs h.z) (h.s.o.alloc _) (Nat.le_trans h.z (by simp))
theorem Y3.A (h:Y3 w W g cv bs a L) (o:Obj):Y3 w (W.alloc o) g cv bs a L:=
 yV (h.m.o.below (zR.alloc zJ o)) (h.s.o.alloc _) (Nat.le_trans h.z (by simp))
theorem Y3.D (h:Y3 w W g cv bs a L):Y3 w W.drew g cv bs a L:=yV h.m.o.drew h.s.o.drew h.z
theorem Y3.N (h:Y3 w W g cv bs a L) (n:Nat):Y3 w (W.drewN n) g cv bs a L:=
 yV (h.m.o.below (below_drewN zR n)) (h.s.o.below (below_drewN zR n)) h.z
theorem Y3.S {W2:World} {a2:Nat} (h:Y3 w W g cv bs a L) (k:Sx W W2 g cv bs a2):Y3 w W2 g cv bs a2 L:=
 yV (h.m.o.src h.s.o.gin k.trn) (h.s.o.next k) (Nat.le_trans h.z k.size)
theorem Y3.T {b:Nat} {t:TypeId} {cs:Array Value} (h:Y3 w W g cv bs a L) (i:Nat) (hi:L[i]?=some (Item.bk b t cs)) (j:Nat) (u:Value):Y3 w (W.setCell ⟨b,j,none⟩ u) g cv bs a (L.set i (Item.bk b t (cs.setIfInBounds j u))):=
 yV (h.m.o.setAt i hi h.z j u) (h.s.o.set_ (h.m.o.lo b (List.mem_flatMap.2 ⟨_,List.mem_of_getElem? hi,by simp[Item.bk]⟩)) j u) (by simpa only[World.size_setCell] using h.z)
theorem Y3.E {b:Nat} {t:TypeId} {cs:Array Value} (h:Y3 w W g cv bs a L) (i:Nat) (hi:L[i]?=some (Item.bk b t cs)) (j:Nat) (u:Value) (cs':Array Value) (hc:cs.setIfInBounds j u=cs'):Y3 w (W.setCell ⟨b,j,none⟩ u) g cv bs a (L.set i (Item.bk b t cs')):=by
 subst hc;exact h.T i hi j u
theorem yL {B b:Nat} {t:TypeId} {cs:Array Value} (H:Sec (FM B W L)) (i:Nat) (hi:L[i]?=some (Item.bk b t cs)):(∀ i,W.cell? ⟨b,i,none⟩=cs[i]?)∧b<W.heap.size∧ ∀ i,W.frozen? ⟨b,i,none⟩=false:=
 have k:Bk W b t cs:=H.o.get i hi
 ⟨k.cell,k.lt,k.free⟩
theorem FM.F {B:Nat} (h:FM B W L) (i:Nat) (hi:i<L.length:=by simp):FM B W (L[i] :: L.eraseIdx i):=h.front i hi
theorem FM.X {B:Nat} (h:FM B W L) (i:Nat) (hi:i<L.length:=by simp):FM B W (L.eraseIdx i):=h.drop i hi
end
end
section
open Go.RowKit
theorem Mid.put {w w':World} {E:TypeId} {sz n g cap:Nat} {pre:List T} {x x':T} {post:List T} {G1 Fx G2 Fy:List Nat} {c1 cx cx' c2:List Value} (h:Mid w E sz n g cap pre x post G1 Fx G2 c1 cx c2)
  (k:Trn [g] w w') (ho:w'.ownsRow 0 E sz (.slice (some ⟨g,0,none⟩) n cap) n (c1++(cx'++c2))) (he:T.ow w' x' Fy cx') (hw:T.wide x'=sz):
  T.ow w' (.sl E sz (pre++x' :: post)) (g :: (G1++(Fy++G2))) [.slice (some ⟨g,0,none⟩) n cap]:=by
 have hg:=(List.nodup_cons.1 h.nd).1
 have d1: ∀ b ∈ G1,b ∉ [g]:=fun b hb hm=>by
  rw[List.mem_singleton] at hm;subst hm;exact hg (by simp[hb])
 have d2: ∀ b ∈ G2,b ∉ [g]:=fun b hb hm=>by
  rw[List.mem_singleton] at hm;subst hm;exact hg (by simp[hb])
 simp only[T.ow];refine⟨_,c1++(cx'++c2),G1++(Fy++G2),rfl,by simp[Value.ownBlock],?_,?_,?_⟩
 ·intro y hy
  rcases List.mem_append.1 hy with hy|hy
  ·exact h.wd y (by simp[hy])
  ·rcases List.mem_cons.1 hy with rfl|hy
   ·exact hw
   ·exact h.wd y (by simp[hy])
 ·have:(pre++x' :: post).length=n:=by rw[h.ln];simp
  rw[this];exact ho
 ·refine(T.ows_app _ _ _ _).2 ⟨G1,Fy++G2,c1,cx'++c2,rfl,rfl,T.ows_trn h.pr k d1,?_⟩
  simp only[T.ows];exact⟨Fy,G2,cx',c2,rfl,rfl,he,T.ows_trn h.po k d2⟩
theorem zQy {α:Type} {l:List α} {k:Nat} {x:α} (h:l[k]?=some x): ∃ pre post,l=pre++x :: post∧pre.length=k∧ ∀ y,l.set k y=pre++y :: post:=by
 obtain⟨hk,he⟩:=List.getElem?_eq_some_iff.1 h;refine⟨l.take k,l.drop (k+1),?_,by rw[List.length_take];omega,fun y=>List.set_eq_take_append_cons_drop.trans (by rw[if_pos hk])⟩;rw[←he,List.getElem_cons_drop hk,List.take_append_drop]
theorem Own.put1 {B:Nat} {w:World} {E:TypeId} {xs:List T} {F Fy:List Nat} {g n cap k:Nat} {x y:T} {u:Value} (h:Own B w (.sl E 1 xs) F (.slice (some ⟨g,0,none⟩) n cap)) (hk:xs[k]?=some x) (hy:T.ow w y Fy [u]) (ny:Fy.Nodup) (ly: ∀ b ∈ Fy,B≤b)
  (hd: ∀ b ∈ F,b ∉ Fy) (hw:T.wide y=1): ∃ F',Own B (w.setCell ⟨g,k,none⟩ u) (.sl E 1 (xs.set k y)) F' (.slice (some ⟨g,0,none⟩) n cap)∧ ∀ b ∈ F',b ∈ F∨b ∈ Fy:=by
 obtain⟨pre,post,hx,hl,hs⟩:=zQy hk;obtain⟨ho,hn,hlo⟩:=h;rw[hx] at ho;obtain⟨n',g',cap',G1,Fx,G2,c1,cx,c2,e1,e2,M⟩:=T.mid ho hn;injection e1 with e1 e3 e4;injection e1 with e1;injection e1 with e1;subst e1 e3 e4 e2;have hg:g ∉ Fy:=hd g (by simp);have hc1:=M.c1;rw[hl,Nat.mul_one] at hc1;have hcx:cx.length=1:=by rw[T.rd_len _ _ (T.ow_rd _ _ _ M.el)];exact M.wd x (by simp)
 obtain⟨c,rfl⟩:=len1 hcx;have hrow:=uTz 0 M.own hc1 (by simp) (u:=u);have hput:=M.put (x':=y) (Trn.set_ (F:= [g]) (by simp) k u) (by simpa using hrow) (T.ow_far hy hg k u) hw;refine⟨_,⟨by rw[hs];exact hput,?_,?_⟩,?_⟩
 ·have nd:=M.nd
  rw[List.nodup_cons] at nd ⊢;have n2:=nd.2;refine⟨fun hm=>?_,vY (xWz n2) (vY ny (yY (yY n2)) (fun b hb hm=>hd b (by simp[hm]) hb)) (fun b hb hm=>?_)⟩
  ·rcases List.mem_append.1 hm with hm|hm
   ·exact nd.1 (by simp[hm])
   ·rcases List.mem_append.1 hm with hm|hm
    ·exact hg hm
    ·exact nd.1 (by simp[hm])
  ·rcases List.mem_append.1 hm with hm|hm
   ·exact hd b (by simp[hb]) hm
   ·exact yYz n2 b hb (by simp[hm])
 ·intro b hb
  rcases List.mem_cons.1 hb with rfl|hb
  ·exact hlo _ (by simp)
  ·rcases List.mem_append.1 hb with hb|hb
   ·exact hlo _ (by simp[hb])
   ·rcases List.mem_append.1 hb with hb|hb
    ·exact ly _ hb
    ·exact hlo _ (by simp[hb])
 ·intro b hb
  rcases List.mem_cons.1 hb with rfl|hb
  ·exact .inl (by simp)
  ·rcases List.mem_append.1 hb with hb|hb
   ·exact .inl (by simp[hb])
   ·rcases List.mem_append.1 hb with hb|hb
    ·exact .inr hb
    ·exact .inl (by simp[hb])
theorem Own.puti {B:Nat} {w:World} {E:TypeId} {xs:List Int} {F:List Nat} {g n cap k:Nat} (y:Int) (h:Own B w (T.ints E xs) F (.slice (some ⟨g,0,none⟩) n cap)) (hk:k<xs.length):
  ∃ F',Own B (w.setCell ⟨g,k,none⟩ (.int .i64 y)) (T.ints E (xs.set k y)) F' (.slice (some ⟨g,0,none⟩) n cap)∧ ∀ b ∈ F',b ∈ F:=by
 have h0:(xs.map T.num)[k]?=some (.num xs[k]):=by rw[List.getElem?_map,gE hk];rfl
 obtain⟨F',h1,h2⟩:=Own.put1 (y:= .num y) (Fy:= []) h h0 (show T.ow w (.num y) [] [.int .i64 y] by simp[T.ow]) List.nodup_nil (by simp) (by simp) rfl;refine⟨F',?_,fun b hb=>by rcases h2 b hb with h|h;exact h;cases h⟩;have e:(xs.map T.num).set k (.num y)=(xs.set k y).map T.num:=by rw[List.map_set]
 rw[e] at h1;exact h1
theorem Own.put2 {B:Nat} {w:World} {E:TypeId} {xs:List T} {F:List Nat} {g n cap k:Nat} {a b:Int} (y:Int) (h:Own B w (.sl E 2 xs) F (.slice (some ⟨g,0,none⟩) n cap)) (hk:xs[k]?=some (.st [.num a,.num b])):
  Own B (w.setCell ⟨g,k * 2+1,none⟩ (.int .i64 y)) (.sl E 2 (xs.set k (.st [.num a,.num y]))) F (.slice (some ⟨g,0,none⟩) n cap):=by
 obtain⟨pre,post,hx,hl,hs⟩:=zQy hk;obtain⟨ho,hn,hlo⟩:=h;rw[hx] at ho;obtain⟨n',g',cap',G1,Fx,G2,c1,cx,c2,e1,e2,M⟩:=T.mid ho hn;injection e1 with e1 e3 e4;injection e1 with e1;injection e1 with e1;subst e1 e3 e4 e2;have hc1:=M.c1;rw[hl] at hc1;have hel:=M.el;simp only[T.ow] at hel
 obtain⟨rfl,rfl⟩:Fx= []∧cx= [.int .i64 a,.int .i64 b]:=by
  simp only[T.ows_num,T.ows_nil] at hel;obtain⟨c3,rfl,c4,rfl,rfl,rfl⟩:=hel;exact⟨rfl,rfl⟩
 have hrow:=uTz 1 M.own hc1 (by simp) (u:= .int .i64 y);refine⟨?_,hn,hlo⟩;rw[hs];exact M.close (x':= .st [.num a,.num y]) (cx':= [.int .i64 a,.int .i64 y]) (Trn.set_ (by simp) _ _) (by simpa using hrow) (T.ow_st (T.c_on (T.c_on T.c_oe))) rfl
theorem Own.inner {B:Nat} {w:World} {E:TypeId} {sz:Nat} {xs:List T} {F:List Nat} {g n cap k:Nat} {x:T} (h:Own B w (.sl E sz xs) F (.slice (some ⟨g,0,none⟩) n cap)) (hk:xs[k]?=some x):
  ∃ Fx cx,T.ow w x Fx cx∧Fx.Nodup∧(∀ b ∈ Fx,b ∈ F)∧g ∉ Fx∧(∀ j u,cx[j]?=some u→w.cell? ⟨g,k * sz+j,none⟩=some u)∧
   ∀ w' x',Trn Fx w w'→T.ow w' x' Fx cx→T.wide x'=sz→Own B w' (.sl E sz (xs.set k x')) F (.slice (some ⟨g,0,none⟩) n cap):=by
 obtain⟨pre,post,hx,hl,hs⟩:=zQy hk;obtain⟨ho,hn,hlo⟩:=h;rw[hx] at ho;obtain⟨n',g',cap',G1,Fx,G2,c1,cx,c2,e1,e2,M⟩:=T.mid ho hn;injection e1 with e1 e3 e4;injection e1 with e1;injection e1 with e1;subst e1 e3 e4 e2;have hc1:=M.c1;rw[hl] at hc1;refine⟨Fx,cx,M.el,M.fx,fun b hb=>by simp[hb],M.gx,fun j u hj=>?_,fun w' x' k' he hw=>⟨?_,hn,hlo⟩⟩
 ·exact uUz j M.own hc1 hj
 ·rw[hs]
  exact M.close (k'.mono (fun b hb=>by simp[hb])) (own_trn M.own k' M.gx) he hw
end
section
open Go.RowKit
section
variable {P:Program}
theorem yAy (w:World) (dT sT ty elem:TypeId) (size g o dLen dCap:Nat) (a:Addr) (sLen sCap:Nat) (cur:Array Value) (t:TypeId) (cs:List Value)
  (hu:P.underlying dT=some (.slice elem)) (hs:(P.info? elem).map (·.size)=some size)
  (hg:w.heap[g]?=some (.cells cur t (0,0))) (hn:cs.length=Nat.min sLen dLen * size)
  (hsrc: ∀ j v,cs[j]?=some v→w.cell? (a.add j)=some v) (hfit:o+cs.length≤cur.size) (h1: ∀ v ∈ cs,v.oneCell'=true):
  (Builtin.copy_ #[dT,sT] ty #[.slice (some ⟨g,o,none⟩) dLen dCap,.slice (some a) sLen sCap]).run P w=
   .ok (goInt (Nat.min sLen dLen)) (w.setRow g (cur.toList.take o++cs++cur.toList.drop (o+cs.length)).toArray):=by
 have hl:=run_loadCells_list (P:=P) w a cs hsrc;have hst:=run_storeCells_at P g o t cs 0 cur w hg (by simpa using hfit) h1
 cases hq:P.info? elem with
 |none=>simp[hq] at hs
 |some i=>
  have hi:i.size=size:=by simpa[hq] using hs
  rw[hn] at hl;simp[Builtin.copy_,run_underlying hu,Builtin.lenOf,Builtin.firstCells,sizeOf,typeInfo,hq,hi,hl,hst]
theorem vSz {w:World} {ops:Array Oper} {rest:List Oper} {o:Oper} {a:Act} {Q:Exit→Act→World→Prop} (hgd:o.guard=none) (d s:Operand) (dT sT:TypeId)
  (ho:o.op= .call { callee:= .builtin .copy,args:= #[d,s],argTypes:= #[dT,sT] }) (elem:TypeId) (size:Nat) (hu:P.underlying dT=some (.slice elem)) (hsz:(P.info? elem).map (·.size)=some size)
  (g off dLen dCap:Nat) (ad:Addr) (sLen sCap:Nat) (hd:a.eval d= .slice (some ⟨g,off,none⟩) dLen dCap) (hs:a.eval s= .slice (some ad) sLen sCap)
  (cur:Array Value) (t:TypeId) (hg:w.heap[g]?=some (.cells cur t (0,0))) (cs:List Value) (hn:cs.length=Nat.min sLen dLen * size)
  (hsrc: ∀ j v,cs[j]?=some v→w.cell? (ad.add j)=some v) (hfit:off+cs.length≤cur.size) (h1: ∀ v ∈ cs,v.oneCell'=true)
  (h:wpList P ops Q rest (a.put o.dst (goInt (Nat.min sLen dLen))) (w.setRow g (cur.toList.take off++cs++cur.toList.drop (off+cs.length)).toArray)):wpList P ops Q (o :: rest) a w:=by
 refine wpList_plain hgd fun K hK=>?_
 have hrun:=yAy (P:=P) w dT sT o.type elem size g off dLen dCap ad sLen sCap cur t cs hu hsz hg hn hsrc hfit h1;unfold Oper.wp;simp[execOp,ho,resolve,invoke,builtin,hd,hs,hrun,Result.andThen];exact hK _ _ (by simpa using h)
theorem uWz {w:World} {ops:Array Oper} {o:Oper} {a:Act} {K:Act→World→Prop} {Q:Exit→Act→World→Prop} {E:Prop} (hgd:o.guard=none) (d s:Operand) (dT sT:TypeId)
  (ho:o.op= .call { callee:= .builtin .copy,args:= #[d,s],argTypes:= #[dT,sT] }) (elem:TypeId) (size:Nat) (hu:P.underlying dT=some (.slice elem)) (hsz:(P.info? elem).map (·.size)=some size)
  (g off dLen dCap:Nat) (ad:Addr) (sLen sCap:Nat) (hd:a.eval d= .slice (some ⟨g,off,none⟩) dLen dCap) (hs:a.eval s= .slice (some ad) sLen sCap)
  (cur:Array Value) (t:TypeId) (hg:w.heap[g]?=some (.cells cur t (0,0))) (cs:List Value) (hn:cs.length=Nat.min sLen dLen * size)
  (hsrc: ∀ j v,cs[j]?=some v→w.cell? (ad.add j)=some v) (hfit:off+cs.length≤cur.size) (h1: ∀ v ∈ cs,v.oneCell'=true)
  (h:K (a.put o.dst (goInt (Nat.min sLen dLen))) (w.setRow g (cur.toList.take off++cs++cur.toList.drop (off+cs.length)).toArray)):
  if Region.wanted o (yielded ops a.tmps)=true then Oper.wp P o a w K Q else E:=by
 have hw:Region.wanted o (yielded ops a.tmps)=true:=by simp[Region.wanted,hgd]
 rw[if_pos hw];have hrun:=yAy (P:=P) w dT sT o.type elem size g off dLen dCap ad sLen sCap cur t cs hu hsz hg hn hsrc hfit h1;unfold Oper.wp;simp[execOp,ho,resolve,invoke,builtin,hd,hs,hrun,Result.andThen];have h':=h;simp only[List.append_assoc] at h';exact h'
theorem run_append_grow_zeros (w:World) (t tn ty e:TypeId) (i:TypeInfo) (z:Value) (k kn:IntKind) (ht:P.underlying t=some (.slice e)) (htn:P.underlying tn=some (.int kn)) (hi:P.info? e=some i) (hz:i.zero=some z)
  (b:Addr) (sLen sCap:Nat) (olds:List Value) (hlo:olds.length=sLen * i.size) (holds: ∀ j v,olds[j]?=some v→w.cell? (b.add j)=some v)
  (n:Nat) (h0:0<n) (hs:0<i.size) (hg:sCap<sLen+n) (h63:((sLen+n:Nat):Int)≤9223372036854775807) (h48:n * i.bytes≤281474976710656) (hfit:Builtin.nextslicecap (sLen+n) sCap * i.bytes≤281474976710656):
  (Builtin.append_ #[t,tn] ty #[.slice (some b) sLen sCap,.int k n]).run P w=
   .ok (.slice (some ⟨w.heap.size,0,none⟩) (sLen+n) (grownCap w (sLen+n) sCap e))
    (w.drew.alloc (.cells (olds.toArray++Builtin.zeroCells z.cells n++Builtin.zeroCells z.cells (grownCap w (sLen+n) sCap e - (sLen+n))) e)):=by
 have hn0:n≠0:=by omega
 have hw:IntKind.i64.wrap (n:Int)=n:=by rw[IntKind.wrap_i64];omega
 have hneg: ¬ ((n:Int)<0):=by omega
 have hns: ¬ (n * i.size=0):=Nat.mul_ne_zero hn0 zM
 have h48i: ¬ (281474976710656<(n:Int) * (i.bytes:Int)):=by
  rw[←Int.natCast_mul]
  omega
 have hn: ¬ (sLen+n≤sCap):=by omega
 have h63': ¬ (9223372036854775807<((sLen:Int)+(n:Int))):=by omega
 have h48': ¬ (281474976710656<Builtin.nextslicecap (sLen+n) sCap * i.bytes):=by omega
 have hfo:=run_firstCells_some (P:=P) w.drew i.size sLen b sLen sCap olds hlo (by simpa using holds);simp[Builtin.append_,run_underlying ht,run_underlying htn,sizeOf,typeInfo,zeroValue,hi,hz,asInt,asIntOf,hw,hn0,hneg,hns,hn,h63',h48',h48i,Question.forced,hfo,newRow,grownCap]
end
end
section
open Go.RowKit
structure Grow (B:Nat) (w:World) (E:TypeId) (sz:Nat) (xs:List T) (F:List Nat) (v:Value) (os:List T) (FR:List Nat) (cr:List Value):Prop where
 own:Own B w (.sl E sz xs) F v
 rest:T.ows w os FR cr
 nd:FR.Nodup
 lo: ∀ b ∈ FR,B≤b
 dj: ∀ b ∈ F,b ∉ FR
section
variable {B:Nat} {w w':World} {E E':TypeId} {sz sz':Nat} {xs:List T} {x:T} {F F' Fx FR:List Nat} {v v':Value} {os:List T} {cr:List Value}
theorem Grow.all (h:Grow B w E sz xs F v os FR cr) (hb:Below w.heap.size w w'):Grow B w' E sz xs F v os FR cr:=
 ⟨h.own.all hb,T.ows_all h.rest hb,h.nd,h.lo,h.dj⟩
theorem Grow.lt (h:Grow B w E sz xs F v os FR cr): ∀ b ∈ F,b<w.heap.size:=h.own.lt
theorem Grow.ltR (h:Grow B w E sz xs F v os FR cr): ∀ b ∈ FR,b<w.heap.size:=T.ows_lt _ _ _ h.rest
theorem Grow.far {g:Nat} (h:Grow B w E sz xs F v os FR cr) (h1:g ∉ F) (h2:g ∉ FR) (o:Nat) (u:Value):Grow B (w.setCell ⟨g,o,none⟩ u) E sz xs F v os FR cr:=
 ⟨⟨T.ow_far h.own.ow h1 o u,h.own.nodup,h.own.lo⟩,T.yX h.rest h2 o u,h.nd,h.lo,h.dj⟩
theorem Grow.app (h:Grow B w E sz xs F v os FR cr) (ho:Own B w' (.sl E sz (xs++ [x])) F' v') (hg:w.grownBy w' v.ownBlock) (hv: ∀ b ∈ F',b ∈ F∨b ∈ Fx∨w.heap.size≤b) (hd: ∀ b ∈ Fx,b ∉ FR):
  Grow B w' E sz (xs++ [x]) F' v' os FR cr:=by
 refine⟨ho,T.ows_keep _ _ _ (fun b hb=>hg.block b (h.ltR b hb) (fun e=>h.dj b (h.own.mem b e.symm) hb)) h.rest,h.nd,h.lo,fun b hb hm=>?_⟩
 rcases hv b hb with k|k|k
 ·exact h.dj b k hm
 ·exact hd b k hm
 ·have:=h.ltR b hm;omega
theorem Grow.o {g:Nat} (hv: ∀ b ∈ F',b ∈ F∨b ∈ Fx∨w.heap.size≤b) (h1:g ∉ F) (h2:g ∉ Fx) (h3:g<w.heap.size):g ∉ F':=fun hm=>by
 rcases hv g hm with k|k|k
 ·exact h1 k
 ·exact h2 k
 ·omega
theorem Grow.end_ (h:Grow B w E sz xs F v os FR cr):T.ows w (os++ [.sl E sz xs]) (FR++F) (cr++ [v])∧(FR++F).Nodup∧ ∀ b ∈ FR++F,B≤b:=by
 refine⟨T.ows_snoc h.rest h.own.ow,vY h.nd h.own.nodup (fun b hb hm=>h.dj b hm hb),fun b hb=>?_⟩
 rcases List.mem_append.1 hb with hb|hb
 ·exact h.lo b hb
 ·exact h.own.lo b hb
theorem Grow.next (h:Grow B w E sz xs F v os FR cr) (E':TypeId) (sz':Nat):Grow B w E' sz' [] [] (.slice none 0 0) (os++ [.sl E sz xs]) (FR++F) (cr++ [v]):=
 ⟨Own.nil B w E' sz',h.end_.1,h.end_.2.1,h.end_.2.2,by simp⟩
theorem Grow.start {os:List T} {FR:List Nat} {cr:List Value} (h:T.ows w os FR cr) (nd:FR.Nodup) (lo: ∀ b ∈ FR,B≤b) (E':TypeId) (sz':Nat):Grow B w E' sz' [] [] (.slice none 0 0) os FR cr:=
 ⟨Own.nil B w E' sz',h,nd,lo,by simp⟩
theorem Grow.form (h:Grow B w E sz xs F v os FR cr): ∃ A l c,v= .slice A l c:=T.xE h.own.ow
theorem Grow.split {E1 E3:TypeId} {s1 s3:Nat} {l1 l3:List T} {v1 v3:Value} (h:Grow B w E sz xs F v [.sl E1 s1 l1,.sl E3 s3 l3] FR [v1,v3]):
  ∃ F1 F3,T.ow w (.sl E1 s1 l1) F1 [v1]∧T.ow w (.sl E3 s3 l3) F3 [v3]∧(F1++(F++(F3++ []))).Nodup∧(∀ b ∈ F1++(F++(F3++ [])),B≤b)∧ ∀ g,g ∉ F→g ∉ FR→g ∉ F1++(F++(F3++ [])):=by
 obtain⟨u1,r1,F1,F2,rfl,e1,o1,hr⟩:=T.ows_sl.1 h.rest;obtain⟨u3,r3,F3,F4,rfl,e3,o3,hr3⟩:=T.ows_sl.1 hr;obtain⟨rfl,rfl⟩:=T.ows_nil.1 hr3;injection e1 with e1 e2;subst e1;rw[e3] at e2;injection e2 with e2 _;subst e2;have nd:=h.nd
 have hm: ∀ b,b ∈ F1++(F++(F3++ []))→b ∈ F∨b ∈ F1++(F3++ []):=fun b hb=>by
  simp only[List.mem_append] at hb ⊢
  rcases hb with hb|hb|hb|hb
  ·exact .inr (.inl hb)
  ·exact .inl hb
  ·exact .inr (.inr (.inl hb))
  ·exact .inr (.inr (.inr hb))
 refine⟨F1,F3,o1,o3,?_,fun b hb=>?_,fun g h1 h2 hg=>?_⟩
 ·refine vY (xWz nd) (vY h.own.nodup (yY nd) (fun b hb hb2=>h.dj b hb (List.mem_append.2 (.inr hb2)))) (fun b hb hb2=>?_)
  rcases List.mem_append.1 hb2 with hb2|hb2
  ·exact h.dj b hb2 (List.mem_append.2 (.inl hb))
  ·exact yYz nd b hb hb2
 ·rcases hm b hb with hb|hb
  ·exact h.own.lo b hb
  ·exact h.lo b hb
 ·rcases hm g hg with hg|hg
  ·exact h1 hg
  ·exact h2 hg
theorem Bk.drew {g:Nat} {t:TypeId} {cs:Array Value} (h:Bk w g t cs):Bk w.drew g t cs:=h
theorem Bk.far1 {g:Nat} {t:TypeId} {cs:Array Value} (h:Bk w g t cs) (hg:w.grownBy w' v.ownBlock) (hn:g ∉ F) (ho:Own B w (.sl E sz xs) F v):Bk w' g t cs:=
 h.grown hg (fun e=>hn (ho.mem g e.symm))
end
end
section
open Go.RowKit
theorem zMz (v:Value) (xs:List Int) (w:World) (hr:RdI w v xs):Calls Tryz.prog 154 #[v] w fun e w'=>e= .returned (.int .i64 (xs.length:Int))∧w=w':=by
 obtain⟨A,cap,rfl,hl,hc,hx⟩:=hr.open_;clear hx hr
 go_enter Tryz.func154,Tryz.ntmps154
 go_wp2;go_ret
 exact⟨rfl,rfl⟩
end
end Go.Proofs.YtdcofkabaigjpaaGreat
