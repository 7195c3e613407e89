/- Memory of data that are being made: numbers put into place, nodes turned, lists that grow. No program is named here. -/
import Derived.Test.YtdcofkabaigjpaaGreatQAcUndone
import Derived.Test.YtdcofkabaigjpaaGreatQAbUndone
set_option linter.unusedVariables false
set_option linter.unusedSimpArgs false

namespace Go.Proofs.YtdcofkabaigjpaaGreat
open Go.RowKit
theorem FM.intset {B:Nat} {w:World} {L:List Item} {E:TypeId} {gx n cap:Nat} {xs:List Int} (h:FM B w L) (i:Nat) (hi:L[i]?=some (Item.ints E (.slice (some ⟨gx,0,none⟩) n cap) xs)) (hB:B≤w.heap.size) (j:Nat) (y:Int):FM B (w.setCell ⟨gx,j,none⟩ (.int .i64 y)) (L.set i (Item.ints E (.slice (some ⟨gx,0,none⟩) n cap) (xs.set j y))):=
 h.wQ (it:=Item.ints E (.slice (some ⟨gx,0,none⟩) n cap) xs) (it':=Item.ints E (.slice (some ⟨gx,0,none⟩) n cap) (xs.set j y)) i hi (Trn.set_ (show gx ∈ (Value.slice (some ⟨gx,0,none⟩) n cap).ownBlock.toList by simp[Value.ownBlock]) j _) (OwI.setN (h.get i hi) j y) (by simp[Item.ints,Value.ownBlock]) (fun x hx=> .inl hx) hB
theorem uO {w:World} {A:Option Addr} {n c:Nat} {xs:List Int} (h:RdI w (.slice A n c) xs):n=xs.length:=by
 obtain⟨A',c',e,-⟩:=h.open_;injection e
theorem FM.appint {B:Nat} {w w':World} {L:List Item} {E:TypeId} {v v':Value} {xs ys:List Int} (h:FM B w L) (i:Nat) (hi:L[i]?=some (Item.ints E v xs)) (hg:w.grownBy w' v.ownBlock) (ho:OwI E w' 0 v' ys) (hv: ∀ b,v'.ownBlock=some b→v.ownBlock=some b∨w.heap.size≤b) (hB:B≤w.heap.size):FM B w' (L.set i (Item.ints E v' ys)):=
 h.wQ (it:=Item.ints E v xs) (it':=Item.ints E v' ys) i hi (Trn.of_grown hg) ho (by show v'.ownBlock.toList.Nodup;cases v'.ownBlock<;>simp) (fun b hb=>by
  have hb':v'.ownBlock=some b:=by simpa[Item.ints] using hb
  rcases hv b hb' with h1|h1
  ·exact .inl (by simp[Item.ints,h1])
  ·exact .inr h1) hB
theorem FM.appAt {B:Nat} {w w':World} {L:List Item} {E:TypeId} {sz:Nat} {xs ys:List T} {F F':List Nat} {v v':Value} (h:FM B w L) (i:Nat) (hi:L[i]?=some (Item.own (.sl E sz xs) F v)) (hg:w.grownBy w' v.ownBlock) (ho:Own B w' (.sl E sz ys) F' v') (hF: ∀ b ∈ F',b ∈ F∨w.heap.size≤b) (hB:B≤w.heap.size):FM B w' (L.set i (Item.own (.sl E sz ys) F' v')):=
 h.wQ (it:=Item.own (.sl E sz xs) F v) (it':=Item.own (.sl E sz ys) F' v') i hi ⟨hg.os,hg.tape,hg.output,hg.size,fun x hx hn=>hg.block x hx (fun e=>hn (by
  have h1:=h.get i hi
  obtain⟨hn0,hlo0⟩:F.Nodup∧ ∀ b ∈ F,B≤b:=⟨(h.front i (List.getElem?_eq_some_iff.1 hi).1 |> fun q=>by
   have q2:=q.fnodup;rw[(List.getElem?_eq_some_iff.1 hi).2] at q2;exact q2),fun b hb=>h.lo b (List.mem_flatMap.2 ⟨_,List.mem_of_getElem? hi,hb⟩)⟩
  exact Own.mem (B:=B) ⟨h1,hn0,hlo0⟩ x e.symm))⟩ ho.ow ho.nodup hF hB
theorem FM.ownAt {B:Nat} {w:World} {L:List Item} {x:T} {F:List Nat} {v:Value} (h:FM B w L) (i:Nat) (hi:L[i]?=some (Item.own x F v)):Own B w x F v:=by
 have q:=h.front i (List.getElem?_eq_some_iff.1 hi).1;rw[(List.getElem?_eq_some_iff.1 hi).2] at q;exact q.own
theorem FM.intsAt {B:Nat} {w:World} {L:List Item} {E:TypeId} {v:Value} {xs:List Int} (h:FM B w L) (i:Nat) (hi:L[i]?=some (Item.ints E v xs)):OwI E w B v xs:=by
 have q:=h.front i (List.getElem?_eq_some_iff.1 hi).1;rw[(List.getElem?_eq_some_iff.1 hi).2] at q;exact q.ints
theorem FM.nodeKind {B:Nat} {w:World} {L:List Item} {E:TypeId} {ns:List xP} {F:List Nat} {g n cap k:Nat} {x:xP} (h:FM B w L) (i:Nat) (hi:L[i]?=some (Item.own (T.sl E 4 (ns.map xP.t)) F (.slice (some ⟨g,0,none⟩) n cap))) (hk:ns[k]?=some x):w.cell? ⟨g,k * 4,none⟩=some (.int .i64 x.zC):=by
 obtain⟨Fx,cx,hel,-,-,-,hc,-⟩:=Own.inner (h.ownAt i hi) (show (ns.map xP.t)[k]?=some x.t by rw[List.getElem?_map,hk];rfl);simp only[xP.t,T.ow] at hel;obtain⟨v3,F3,rfl,-,-⟩:=xP.ow_open hel;exact hc 0 _ rfl
theorem FM.nodeFrom {B:Nat} {w:World} {L:List Item} {E:TypeId} {ns:List xP} {F:List Nat} {g n cap k:Nat} {x:xP} (h:FM B w L) (i:Nat) (hi:L[i]?=some (Item.own (T.sl E 4 (ns.map xP.t)) F (.slice (some ⟨g,0,none⟩) n cap))) (hk:ns[k]?=some x) (hf:0<x.zK.length) (hB:B≤w.heap.size):
  ∃ gf cf z,w.cell? ⟨g,k * 4+3,none⟩=some (.slice (some ⟨gf,0,none⟩) x.zK.length cf)∧w.cell? ⟨gf,0,none⟩=some (.int .i64 z)∧w.frozen? ⟨gf,0,none⟩=false∧gf<w.heap.size∧B≤gf∧gf≠g∧
   ∀ y:Int,FM B (w.setCell ⟨gf,0,none⟩ (.int .i64 y)) (L.set i (Item.own (T.sl E 4 ((ns.set k { x with zK:=x.zK.set 0 y }).map xP.t)) F (.slice (some ⟨g,0,none⟩) n cap))):=by
 have hO:=h.ownAt i hi;obtain⟨Fx,cx,hel,hnd,hsub,hg,hc,hput⟩:=Own.inner hO (show (ns.map xP.t)[k]?=some x.t by rw[List.getElem?_map,hk];rfl);simp only[xP.t,T.ow] at hel;obtain⟨v3,F3,rfl,rfl,h3⟩:=xP.ow_open hel;obtain⟨h4,rfl⟩:=T.ow_ints.1 h3;obtain⟨gf,cf,rfl,-,-,hlt⟩:=OwI.form h4 hf;obtain⟨z,hz⟩: ∃ z,x.zK[0]?=some z:=⟨x.zK[0]'hf,gE _⟩;have hm:gf ∈ (Value.slice (some ⟨gf,0,none⟩) x.zK.length cf).ownBlock.toList++ []:=by simp[Value.ownBlock]
 refine⟨gf,cf,z,hc 3 _ rfl,h4.cell hz,h4.free 0,hlt,hO.lo gf (hsub gf hm),fun e=>hg (e ▸ hm),fun y=>?_⟩;have t1:Trn ((Value.slice (some ⟨gf,0,none⟩) x.zK.length cf).ownBlock.toList++ []) w (w.setCell ⟨gf,0,none⟩ (.int .i64 y)):=Trn.set_ hm 0 _
 have h5:=hput _ (({ x with zK:=x.zK.set 0 y } :xP)).t t1 (by
  simp only[xP.t,T.ow]
  exact xP.ow_mk (x:= { x with zK:=x.zK.set 0 y }) (T.ow_ints.2 ⟨by
   have h6:=h4.setN 0 y;exact h6,rfl⟩)) rfl
 rw[←List.map_set] at h5;exact h.wQ (it':=Item.own (T.sl E 4 ((ns.set k { x with zK:=x.zK.set 0 y }).map xP.t)) F (.slice (some ⟨g,0,none⟩) n cap)) i hi (t1.mono (fun b hb=>hsub b hb)) h5.ow h5.nodup (fun b hb=> .inl hb) hB
end Go.Proofs.YtdcofkabaigjpaaGreat
