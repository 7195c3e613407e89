/- Rendering a patch, in plain words. Contracts: rendering, small functions of both sides. -/
import Derived.Test.YtoibekfhepnedaaGreatQAnExactMakeCache
import Derived.Test.YtoibekfhepnedaaGreatQAbExactMakeCache
import Derived.Test.YtoibekfhepnedaaGreatQAkExactMakeCache
set_option linter.unusedVariables false
set_option linter.unusedSimpArgs false
set_option maxHeartbeats 2000000
set_option maxRecDepth 20000
namespace Go.Proofs.YtoibekfhepnedaaGreat
section
open Go.RowKit
theorem lgetD_self {α:Type} {l:List α} {i:Nat} {x d:α} (h:i<l.length):(l.set i x).getD i d=x:=by
 rw[List.getD_eq_getElem?_getD,List.getElem?_set_self h];rfl
theorem lgetD_ne {α:Type} {l:List α} {i j:Nat} {x d:α} (h:i≠j):(l.set i x).getD j d=l.getD j d:=by
 rw[List.getD_eq_getElem?_getD,List.getElem?_set_ne h,List.getD_eq_getElem?_getD]
def noiseF (s:Int):Int:=
 if (s % 4294967296) % 2=1 then wrp (((s % 4294967296 / 2).toNat ^^^ 2734686208:Nat):Int) else wrp (s % 4294967296 / 2)
/-- What a node gets in a frame. -/
def inF (n:xJ) (frame vals:List Int):List Int:=if n.zD=1 then [frame.getD n.fA.toNat 0] else n.zH.map fun i=>vals.getD i.toNat 0
def lookF (t:List Int) (a:Int):Int:=t.getD ((t.length:Int) * (a % 4294967296) / 4294967296).toNat 0
/-- The output of a node. -/
def xW (n:xJ) (tables:List (List Int)) (ins s:List Int):Int:=
 if n.zD=1 then ins.getD 0 0
 else if n.zD=2 then n.fA
 else if n.zD=3 then wrp (ins.getD 0 0+ins.getD 1 0)
 else if n.zD=4 then wrp (ins.getD 0 0 - ins.getD 1 0)
 else if n.zD=5 then wrp (n.fA * ins.getD 0 0)
 else if n.zD=6 then s.getD 0 0
 else if n.zD=7 then wrp (s.getD 0 0+ins.getD 0 0)
 else if n.zD=8 then wrp (ins.getD 0 0 - s.getD 0 0)
 else if n.zD=9 then wrp (ins.getD 0 0 * ins.getD 1 0)
 else if n.zD=10 then ins.getD 0 0 / ((2 ^ n.fA.toNat:Nat):Int)
 else if n.zD=11 then max (-n.fA) (min n.fA (ins.getD 0 0))
 else if n.zD=12 then s.getD 0 0
 else if n.zD=13 then lookF (tables.getD n.fA.toNat []) (ins.getD 0 0)
 else if n.zD=14 then s.getD 0 0
 else if n.zD=15 then (if 0≤ins.getD 0 0 then ins.getD 1 0 else ins.getD 2 0)
 else if n.zD=16 then (if 0<ins.getD 1 0 then ins.getD 0 0 else s.getD 0 0)
 else wrp (ins.getD 0 0+n.fA * s.getD 0 0)
/-- The next state of a node. -/
def xN (n:xJ) (ins s:List Int) (out:Int):List Int:=
 if n.zD=6 then s.drop 1++ [ins.getD 0 0]
 else if n.zD=17 then s.drop 1++ [out]
 else if n.zD=7 then [out]
 else if n.zD=16 then [out]
 else if n.zD=8 then [ins.getD 0 0]
 else if n.zD=12 then [wrp (s.getD 0 0+ins.getD 0 0)]
 else if n.zD=14 then [noiseF (s.getD 0 0)]
 else []
section
variable (p:xG) (cells:List (List Int)) (frame:List Int)
def valStep (vals:List Int) (i:Int):List Int:=
 match p.zB[i.toNat]? with
 |some n=>vals.set i.toNat (xW n p.zN (inF n frame vals) (cells.getD i.toNat []))
 |none=>vals
/-- The outputs of all nodes, begun with some values; the first ones of the order. -/
def vE (l:List Int) (v:List Int):List Int:=l.foldl (valStep p cells frame) v
def vO:List Int:=vE p cells frame (xR p.zB) (List.replicate p.zB.length 0)
def cellN (vals:List Int) (i:Nat) (n:xJ):List Int:=xN n (inF n frame vals) (cells.getD i []) (vals.getD i 0)
def vM (vals:List Int):List (List Int):=p.zB.mapIdx fun i n=>cellN cells frame vals i n
end
section
variable {p:xG} {cells:List (List Int)} {frame:List Int}
theorem length_valStep (v:List Int) (i:Int):(valStep p cells frame v i).length=v.length:=by
 unfold valStep;split<;>simp
theorem uC (l:List Int): ∀ v,(vE p cells frame l v).length=v.length:=by
 induction l with
 |nil=>intro v;rfl
 |cons i l ih=>intro v;show (vE p cells frame l (valStep p cells frame v i)).length=_;rw[ih,length_valStep]
theorem length_valsF:(vO p cells frame).length=p.zB.length:=by unfold vO;rw[uC,List.length_replicate]
theorem valsOf_snoc (l:List Int) (i:Int) (v:List Int):vE p cells frame (l++ [i]) v=valStep p cells frame (vE p cells frame l v) i:=by
 unfold vE;rw[List.foldl_append];rfl
theorem valStep_other {v:List Int} {i:Int} {x:Nat} (h:x≠i.toNat):(valStep p cells frame v i).getD x 0=v.getD x 0:=by
 unfold valStep
 split
 ·rw[List.getD_eq_getElem?_getD,List.getElem?_set_ne (fun e=>h e.symm),List.getD_eq_getElem?_getD]
 ·rfl
theorem valsOf_other {l:List Int} {x:Nat} : ∀ {v:List Int},(∀ i ∈ l,x≠i.toNat)→(vE p cells frame l v).getD x 0=v.getD x 0:=by
 induction l with
 |nil=>intro v _;rfl
 |cons i l ih=>
  intro v h
  show (vE p cells frame l (valStep p cells frame v i)).getD x 0=_
  rw[ih (fun j hj=>h j (by simp[hj])),valStep_other (h i (by simp))]
end
/-- The order, step by step. -/
theorem ordNodes_grow {nodes:List xJ} (k:Nat): ∀ m,(xB nodes (k+m)).length≤(xB nodes k).length+m
 |0=>Nat.le_refl _
 |m+1=>by
  have ih:=ordNodes_grow (nodes:=nodes) k m
  rw[←Nat.add_assoc]
  simp only[xB]
  split
  ·simp;omega
  ·omega
theorem order_full {nodes:List xJ} (h:(xR nodes).length=nodes.length) {k:Nat} (hk:k≤nodes.length):(xB nodes k).length=k:=by
 have h1:=ordNodes_len (nodes:=nodes) k
 have h2:=ordNodes_grow (nodes:=nodes) k (nodes.length - k)
 rw[show k+(nodes.length - k)=nodes.length by omega] at h2
 unfold xR at h
 omega
theorem order_next {nodes:List xJ} (h:(xR nodes).length=nodes.length) {k:Nat} (hk:k<nodes.length): ∃ i,nextF nodes (xB nodes k)=some i∧xB nodes (k+1)=xB nodes k++ [(i:Int)]:=by
 cases hn:nextF nodes (xB nodes k) with
 |some i=>exact⟨i,rfl,ordNodes_snoc hn⟩
 |none=>
  have h1:=order_full h (k:=k+1) (by omega)
  have h2:=order_full h (k:=k) (by omega)
  rw[ordNodes_stop hn 1] at h1
  omega
theorem order_take {nodes:List xJ} (h:(xR nodes).length=nodes.length): ∀ m k,k+m=nodes.length→(xR nodes).take k=xB nodes k
 |0,k,e=>by
  have:k=nodes.length:=by omega
  subst this
  unfold xR at h ⊢
  rw[List.take_of_length_le (by omega)]
 |m+1,k,e=>by
  obtain⟨i,_,h2⟩:=order_next h (k:=k) (by omega)
  have ih:=order_take h m (k+1) (by omega)
  have h3:=order_full h (k:=k) (by omega)
  have:(xR nodes).take k=((xR nodes).take (k+1)).take k:=by rw[List.take_take];congr 1;omega
  rw[this,ih,h2,List.take_append_of_le_length (by omega),List.take_of_length_le (by omega)]
/-- A node of the order comes behind those that it waits for. -/
theorem order_at {nodes:List xJ} (h:(xR nodes).length=nodes.length) {k:Nat} {i:Int} (hk:(xR nodes)[k]?=some i):
  ∃ n:xJ,0≤i∧nodes[i.toNat]?=some n∧i ∉ (xR nodes).take k∧ ∀ f ∈ vY n,f ∈ (xR nodes).take k:=by
 have hl:k<nodes.length:=by have:=(List.getElem?_eq_some_iff.1 hk).1;omega
 obtain⟨j,h1,h2⟩:=order_next h hl
 have h3:=order_full h (k:=k) (by omega)
 have e:(xR nodes).take (k+1)=(xR nodes).take k++ [i]:=by rw[List.take_add_one,hk];rfl
 rw[order_take h (nodes.length - (k+1)) (k+1) (by omega),order_take h (nodes.length - k) k (by omega),h2] at e
 obtain rfl:(j:Int)=i:=by simpa using e
 obtain⟨h4,h5⟩:=nextF_inv h1
 rw[order_take h (nodes.length - k) k (by omega)]
 unfold readyB at h5
 rw[gE h4] at h5
 simp only[Option.map_some,Option.getD_some,Bool.and_eq_true,Bool.not_eq_true',List.all_eq_true] at h5
 refine⟨nodes[j],by omega,by rw[Int.toNat_natCast];exact gE h4,?_,fun f hf=>?_⟩
 ·have:=h5.1;simpa using this
 ·have:=h5.2 f hf;simpa using this
theorem order_all {nodes:List xJ} (h:(xR nodes).length=nodes.length) {i:Nat} (hi:i<nodes.length):(i:Int) ∈ xR nodes:=by
 have hn:=ordNodes_in (nodes:=nodes) nodes.length
 apply Classical.byContradiction
 intro hm
 have:=nodup_bound (n:=nodes.length) (l:=(i:Int) :: xR nodes) (by rw[List.nodup_cons];exact⟨hm,hn.1⟩) (fun x hx=>by
  rcases List.mem_cons.1 hx with rfl|hx
  ·omega
  ·exact hn.2 x hx)
 rw[List.length_cons,h] at this
 omega
section
variable {p:xG} {cells:List (List Int)} {frame:List Int}
/-- Nodes that a valid patch's node names. -/
structure PlayOk (p:xG):Prop where
 order:(xR p.zB).length=p.zB.length
 from_:Each p.zB fun _ x=>Idx x.zH (p.zB.length:Int)
theorem wZ.play (h:wZ p):PlayOk p:=⟨h.order,fun i x hx=>(h.formed.nodes i x hx).2.1⟩
theorem inF_same {n:xJ} {v v':List Int} (h: ∀ f ∈ n.zH,v.getD f.toNat 0=v'.getD f.toNat 0):inF n frame v=inF n frame v':=by
 unfold inF
 split
 ·rfl
 ·exact List.map_congr_left h
/-- The values of the first nodes of the order, whatever values they begin with, are those in the end. -/
theorem vals_prefix (h:PlayOk p) {v:List Int} (hv:v.length=p.zB.length): ∀ k,k≤p.zB.length→ ∀ x ∈ (xR p.zB).take k,
  (vE p cells frame ((xR p.zB).take k) v).getD x.toNat 0=(vO p cells frame).getD x.toNat 0:=by
 -- both begin alike
 have key: ∀ (u:List Int),u.length=p.zB.length→ ∀ k,k≤p.zB.length→ ∀ x ∈ (xR p.zB).take k,(vE p cells frame ((xR p.zB).take k) u).getD x.toNat 0=(vE p cells frame ((xR p.zB).take k) (List.replicate p.zB.length 0)).getD x.toNat 0:=by
  intro u hu k
  induction k with
  |zero=>intro _ x hx;simp at hx
  |succ k ih=>
   intro hk x hx
   have hlt:k<(xR p.zB).length:=by rw[h.order];omega
   have hg:=gE hlt
   generalize (xR p.zB)[k]=i at hg
   obtain⟨n,h0,h1,h2,h3⟩:=order_at h.order hg
   have ht:(xR p.zB).take (k+1)=(xR p.zB).take k++ [i]:=by rw[List.take_add_one,hg];rfl
   rw[ht] at hx ⊢
   rw[valsOf_snoc,valsOf_snoc]
   have ih':=ih (by omega)
   by_cases e:x.toNat=i.toNat
   ·rw[e]
    have hi:i.toNat<p.zB.length:=(List.getElem?_eq_some_iff.1 h1).1
    unfold valStep
    rw[h1]
    dsimp only
    rw[lgetD_self (by rw[uC,hu];exact hi),lgetD_self (by rw[uC,List.length_replicate];exact hi)]
    by_cases h6:n.zD=6
    ·unfold xW
     simp[h6]
    ·rw[inF_same (fun f hf=>ih' f (h3 f (by unfold vY;rw[if_neg h6];exact hf)))]
   ·rw[valStep_other e,valStep_other e]
    rcases List.mem_append.1 hx with hx|hx
    ·exact ih' x hx
    ·simp at hx;subst hx;exact absurd rfl e
 intro k hk x hx
 rw[key v hv k hk x hx]
 have hs:xR p.zB=(xR p.zB).take k++(xR p.zB).drop k:=(List.take_append_drop _ _).symm
 have hf:vO p cells frame=vE p cells frame ((xR p.zB).drop k) (vE p cells frame ((xR p.zB).take k) (List.replicate p.zB.length 0)):=by
  unfold vO
  conv=>lhs;rw[hs]
  unfold vE
  rw[List.foldl_append]
 rw[hf]
 refine(valsOf_other (fun i hi e=>?_)).symm
 have hn:=(ordNodes_in (nodes:=p.zB) p.zB.length)
 have hnd:(xR p.zB).Nodup:=hn.1
 rw[hs,List.nodup_append] at hnd
 have hx0:=hn.2 x (List.mem_of_mem_take hx)
 have hi0:=hn.2 i (List.mem_of_mem_drop hi)
 exact hnd.2.2 x hx i hi (by omega)
theorem vals_any (h:PlayOk p) {v:List Int} (hv:v.length=p.zB.length):vE p cells frame (xR p.zB) v=vO p cells frame:=by
 apply List.ext_getElem?
 intro i
 by_cases hi:i<p.zB.length
 ·have:=vals_prefix (cells:=cells) (frame:=frame) h hv p.zB.length (Nat.le_refl _) (i:Int) (by rw[←h.order,List.take_length];exact order_all h.order hi)
  rw[←h.order,List.take_length,Int.toNat_natCast,List.getD_eq_getElem?_getD,List.getD_eq_getElem?_getD] at this
  rw[gE (by rw[uC,hv];exact hi),gE (by rw[length_valsF];exact hi)] at this ⊢
  simpa using this
 ·rw[List.getElem?_eq_none (by rw[uC,hv];omega),List.getElem?_eq_none (by rw[length_valsF];omega)]
/-- What a node gets when its turn comes is what it has in the end. -/
theorem in_turn (h:PlayOk p) {v:List Int} (hv:v.length=p.zB.length) {k:Nat} {i:Int} {n:xJ} (hk:(xR p.zB)[k]?=some i) (hn:p.zB[i.toNat]?=some n) (h6:n.zD≠6):
  inF n frame (vE p cells frame ((xR p.zB).take k) v)=inF n frame (vO p cells frame):=by
 obtain⟨n',_,h1,_,h3⟩:=order_at h.order hk
 rw[hn] at h1
 injection h1 with h1
 subst h1
 refine inF_same (fun f hf=>?_)
 exact vals_prefix h hv k (by have:=(List.getElem?_eq_some_iff.1 hk).1;rw[h.order] at this;omega) f (h3 f (by unfold vY;rw[if_neg h6];exact hf))
end
/-- The state of a node at the beginning. -/
def wD (n:xJ):List Int:=
 if n.zD=6 then List.replicate n.fA.toNat 0
 else if n.zD=17 then List.replicate n.fB.toNat 0
 else if n.zD=7∨n.zD=8∨n.zD=16 then [0]
 else if n.zD=12∨n.zD=14 then [n.fA]
 else []
section
variable (p:xG) (ins:List (List Int))
def frameF (t:Nat):List Int:=ins.map fun l=>wR l (t:Int)
/-- The states of all nodes ahead of a frame. -/
def cellsAt:Nat→List (List Int)
 |0=>p.zB.map wD
 |t+1=>vM p (cellsAt t) (frameF ins t) (vO p (cellsAt t) (frameF ins t))
def valsAt (t:Nat):List Int:=vO p (cellsAt p ins t) (frameF ins t)
/-- The first samples of the outputs. -/
def renderF (n:Nat):List (List Int):=p.zK.map fun o=>(List.range n).map fun t=>(valsAt p ins t).getD o.toNat 0
end
end
section
open Go.RowKit
theorem c_mapped (v u:Value) (l vals:List Int) (w:World) (hl:RdI w v l) (hv:RdI w u vals) (hi:Idx l (vals.length:Int)) (hn:l.length≤1048576):Calls Tryz.prog 288 #[v,u] w fun e w'=> ∃ v',e= .returned v'∧OwI 2 w' w.heap.size v' (l.map fun i=>vals.getD i.toNat 0)∧Below w.heap.size w w':=by
 have HI:=hide hi
 obtain⟨A,cap,rfl,hln,hm,hx⟩:=hl.open_
 obtain⟨A2,cap2,rfl,hln2,hm2,hx2⟩:=hv.open_
 have HX:=hide hx;have HX2:=hide hx2;clear hx hx2 hi hl hv
 go_enter Tryz.func288,Tryz.ntmps288
 go_wp2
 go_loopw [5,11] (fun o i wr=> ∃ k:Nat,k≤l.length∧i= .int .i64 (k:Int)∧OwI 2 wr w.heap.size o ((l.take k).map fun i=>vals.getD i.toNat 0)∧Below w.heap.size w wr) (fun _ i _=>l.length - (intOf i).toNat)
 case atStart=>exact⟨0,Nat.zero_le _,rfl,vC w,(Below.refl _ _).alloc (Nat.le_refl _) _⟩
 case round=>
  obtain⟨k,hk,rfl,ho,hb⟩:=hrel
  have HO:=hide ho;have HB:=hide hb;have hsz:=hb.size;clear ho hb
  by_cases hlt:k<l.length
  ·have hgk:=gE hlt
   obtain⟨b,off,rfl,hb1,hc⟩:=HX.out k l[k] hgk
   have hii:=HI.out k _ hgk
   have d0:=(HB.out.cell hb1).trans hc
   have hb2:b<wr.heap.size:=lL hb1 HB.out.size
   generalize l[k]=i at *
   have HGK:=hide hgk;clear hgk hc
   have hj:i.toNat<vals.length:=by omega
   have hgj:=gE hj
   obtain⟨b4,off4,rfl,hb3,hc3⟩:=HX2.out i.toNat _ hgj
   have d1:=(HB.out.cell hb3).trans hc3
   have hb4:b4<wr.heap.size:=lL hb3 HB.out.size
   generalize vals[i.toNat]=x at *
   have HGJ:=hide hgj;clear hgj hc3
   have n0:0≤i:=hii.1
   have n1:i<(vals.length:Int):=by omega
   have hlen:((l.take k).map fun i=>vals.getD i.toNat 0).length+1≤17592186044416:=by rw[List.length_map,List.length_take];omega
   go_wp2_with (at_builtin;refine uQ rfl _ _ rfl rfl HO.out rfl hlen hsz ?_;intro v5 w5 ho5 hg5 hv5;have hb5:=wW HB.out HO.out hg5 (Nat.le_refl _) hsz;have HO5:=hide ho5;have HB5:=hide hb5;clear ho5 hb5 hg5 hv5)
   go_roundw
   case rel=>exact⟨k+1,by omega,by go_num,by rw[xQ HGK.out,List.map_append,List.map_cons,List.map_nil,List.getD_eq_getElem?_getD (l:=vals),HGJ.out];exact HO5.out,HB5.out⟩
   case measure=>simp[intOf];omega
  ·obtain rfl:k=l.length:=by omega
   go_wp2
   go_ret
   exact⟨_,rfl,by have:=HO.out;rwa [List.take_length] at this,HB.out⟩
theorem c_l07Map (v u:Value) (l vals:List Int) (w:World) (hl:RdI w v l) (hv:RdI w u vals) (hi:Idx l (vals.length:Int)) (hn:l.length≤1048576):Calls Tryz.prog 291 #[v,u] w fun e w'=> ∃ v',e= .returned v'∧OwI 2 w' w.heap.size v' (l.map fun i=>vals.getD i.toNat 0)∧Below w.heap.size w w':=by
 have HI:=hide hi
 obtain⟨A,cap,rfl,hln,hm,hx⟩:=hl.open_
 obtain⟨A2,cap2,rfl,hln2,hm2,hx2⟩:=hv.open_
 have HX:=hide hx;have HX2:=hide hx2;clear hx hx2 hi hl hv
 go_enter Tryz.func291,Tryz.ntmps291
 go_wp2
 go_loopw [5,6] (fun o i wr=> ∃ k:Nat,k≤l.length∧i= .int .i64 (k:Int)∧OwI 2 wr w.heap.size o ((l.take k).map fun i=>vals.getD i.toNat 0)∧Below w.heap.size w wr) (fun _ i _=>l.length - (intOf i).toNat)
 case atStart=>exact⟨0,Nat.zero_le _,rfl,vC w,(Below.refl _ _).alloc (Nat.le_refl _) _⟩
 case round=>
  obtain⟨k,hk,rfl,ho,hb⟩:=hrel
  have HO:=hide ho;have HB:=hide hb;have hsz:=hb.size;clear ho hb
  by_cases hlt:k<l.length
  ·have hgk:=gE hlt
   obtain⟨b,off,rfl,hb1,hc⟩:=HX.out k l[k] hgk
   have hii:=HI.out k _ hgk
   have d0:=(HB.out.cell hb1).trans hc
   have hb2:b<wr.heap.size:=lL hb1 HB.out.size
   generalize l[k]=i at *
   have HGK:=hide hgk;clear hgk hc
   have hj:i.toNat<vals.length:=by omega
   have hgj:=gE hj
   obtain⟨b4,off4,rfl,hb3,hc3⟩:=HX2.out i.toNat _ hgj
   have d1:=(HB.out.cell hb3).trans hc3
   have hb4:b4<wr.heap.size:=lL hb3 HB.out.size
   generalize vals[i.toNat]=x at *
   have HGJ:=hide hgj;clear hgj hc3
   have n0:0≤i:=hii.1
   have n1:i<(vals.length:Int):=by omega
   have hlen:((l.take k).map fun i=>vals.getD i.toNat 0).length+1≤17592186044416:=by rw[List.length_map,List.length_take];omega
   go_wp2_with (at_builtin;refine uQ rfl _ _ rfl rfl HO.out rfl hlen hsz ?_;intro v5 w5 ho5 hg5 hv5;have hb5:=wW HB.out HO.out hg5 (Nat.le_refl _) hsz;have HO5:=hide ho5;have HB5:=hide hb5;clear ho5 hb5 hg5 hv5)
   go_roundw
   case rel=>exact⟨k+1,by omega,by go_num,by rw[xQ HGK.out,List.map_append,List.map_cons,List.map_nil,List.getD_eq_getElem?_getD (l:=vals),HGJ.out];exact HO5.out,HB5.out⟩
   case measure=>simp[intOf];omega
  ·obtain rfl:k=l.length:=by omega
   go_wp2
   go_ret
   exact⟨_,rfl,by have:=HO.out;rwa [List.take_length] at this,HB.out⟩
theorem c_mAdd (a b:Int) (w:World) (ha:Smp a) (hb:Smp b):Calls Tryz.prog 238 #[.int .i64 a,.int .i64 b] w fun e w'=>e= .returned (.int .i64 (wrp (a+b)))∧w=w':=by
 have e1:=wrp_of_smp ha;have e2:=wrp_of_smp hb
 have HE1:=hide e1;have HE2:=hide e2;clear e1 e2
 unfold Smp at ha hb
 go_enter Tryz.func238,Tryz.ntmps238
 go_wp2_with fail
 refine(c_l01Wrap _ _).mono ?_;rintro e w' ⟨rfl,rfl⟩;rw[HE1.out]
 go_wp2_with fail
 refine(c_l01Wrap _ _).mono ?_;rintro e w' ⟨rfl,rfl⟩;rw[HE2.out]
 go_wp2_with fail
 refine(c_l01Wrap _ _).mono ?_;rintro e w' ⟨rfl,rfl⟩
 go_wp2
 go_ret
 exact⟨rfl,rfl⟩
theorem smp_mul {a b:Int} (ha:Smp a) (hb:Smp b): -4611686018427387904≤a * b∧a * b≤4611686018427387904:=by
 unfold Smp at *
 have h:(a * b).natAbs≤4611686018427387904:=by
  rw[Int.natAbs_mul]
  have h1:a.natAbs≤2147483648:=by omega
  have h2:b.natAbs≤2147483648:=by omega
  exact Nat.mul_le_mul h1 h2
 omega
theorem c_l01Mul (a b:Int) (w:World) (ha:Smp a) (hb:Smp b):Calls Tryz.prog 239 #[.int .i64 a,.int .i64 b] w fun e w'=>e= .returned (.int .i64 (wrp (a * b)))∧w=w':=by
 have h:=smp_mul ha hb
 have ea:wrp a=a:=wrp_of_smp ha
 have eb:wrp b=b:=wrp_of_smp hb
 have hw:IntKind.i64.wrap (a * b)=a * b:=IntWalk.i64_in _ (by omega)
 have EA:=hide ea;have EB:=hide eb;clear ea eb ha hb
 go_enter Tryz.func239,Tryz.ntmps239
 go_wp2_with fail
 refine(c_l01Wrap _ _).mono ?_;rintro e w' ⟨rfl,rfl⟩;rw[EA.out]
 go_wp2_with fail
 refine(c_l01Wrap _ _).mono ?_;rintro e w' ⟨rfl,rfl⟩;rw[EB.out]
 go_wp2_with fail
 refine(c_l01Wrap _ _).mono ?_;rintro e w' ⟨rfl,rfl⟩
 go_wp2
 go_ret
 exact⟨rfl,rfl⟩
theorem c_unsigned (x:Int) (w:World):Calls Tryz.prog 295 #[.int .i64 x] w fun e w'=>e= .returned (.int .i64 (x % 4294967296))∧w=w':=by
 go_enter Tryz.func295,Tryz.ntmps295
 go_wp2
 go_ret
 exact⟨rfl,rfl⟩
theorem c_isOdd (x:Int) (w:World):Calls Tryz.prog 296 #[.int .i64 x] w fun e w'=>e= .returned (.bool (decide (x % 2=1)))∧w=w':=by
 have h:=and_1 x
 go_enter Tryz.func296,Tryz.ntmps296
 go_wp2
 go_ret
 exact⟨yI (by rw[Bool.eq_iff_iff];simp),rfl⟩
theorem noise_facts (s:Int): ∃ u:Int,s % 4294967296=u∧0≤u∧u<4294967296∧bits .and .i64 s 4294967295=u∧bits .and .i64 u 1=u % 2∧bits .xor .i64 (u / 2) 2734686208=(((u / 2).toNat ^^^ 2734686208:Nat):Int)∧noiseF s=(if u % 2=1 then wrp (((u / 2).toNat ^^^ 2734686208:Nat):Int) else wrp (u / 2)):=by
 refine⟨s % 4294967296,rfl,by omega,by omega,and_32 s,and_1 _,?_,rfl⟩
 have h:=bits_xor_nat (s % 4294967296 / 2).toNat 2734686208 (by omega) (by omega)
 rw[show (((s % 4294967296 / 2).toNat:Nat):Int)=s % 4294967296 / 2 by omega] at h
 exact h
theorem c_l06Noise (s:Int) (w:World):Calls Tryz.prog 292 #[.int .i64 s] w fun e w'=>e= .returned (.int .i64 (noiseF s))∧w=w':=by
 obtain⟨u,hu,u0,u1,ha,h1,hx,hn⟩:=noise_facts s
 have HN:=hide hn;clear hn hu
 generalize hX:(((u / 2).toNat ^^^ 2734686208:Nat):Int)=X at *
 clear hX
 generalize noiseF s=N at *
 by_cases ho:u % 2=1
 ·have q:(u % 2 == 1)=true:=yS ho
  have HE:=hide (HN.out.trans (if_pos ho));clear ho HN
  go_enter Tryz.func292,Tryz.ntmps292
  go_wp2_with (go_at_call 156;refine(c_l01Wrap _ _).mono ?_;rintro e w' ⟨rfl,rfl⟩)
  go_ret
  exact⟨xZ (by rw[HE.out]),rfl⟩
 ·have q:(u % 2 == 1)=false:=yR ho
  have HE:=hide (HN.out.trans (if_neg ho));clear ho HN
  go_enter Tryz.func292,Tryz.ntmps292
  go_wp2_with (go_at_call 156;refine(c_l01Wrap _ _).mono ?_;rintro e w' ⟨rfl,rfl⟩)
  go_ret
  exact⟨xZ (by rw[HE.out]),rfl⟩
theorem c_noise (s:Int) (w:World):Calls Tryz.prog 293 #[.int .i64 s] w fun e w'=>e= .returned (.int .i64 (noiseF s))∧w=w':=by
 obtain⟨u,hu,u0,u1,ha,h1,hx,hn⟩:=noise_facts s
 have hs:s % 2=u % 2:=by omega
 have HN:=hide hn;clear hn ha h1
 generalize hX:(((u / 2).toNat ^^^ 2734686208:Nat):Int)=X at *
 clear hX
 generalize noiseF s=N at *
 have HU:=hide hu;clear hu
 by_cases ho:u % 2=1
 ·have q:decide (s % 2=1)=true:=decide_eq_true (by omega)
  have HQ:=hide q
  have HE:=hide (HN.out.trans (if_pos ho));clear ho HN hs q
  go_enter Tryz.func293,Tryz.ntmps293
  go_wp2_with (first|(go_at_call 295;refine(c_unsigned _ _).mono ?_;rintro e w' ⟨rfl,rfl⟩;rw[HU.out])|(go_at_call 296;refine(c_isOdd _ _).mono ?_;rintro e w' ⟨rfl,rfl⟩;rw[HQ.out])|(go_at_call 242;refine(c_Wrap _ _).mono ?_;rintro e w' ⟨rfl,rfl⟩))
  go_ret
  exact⟨xZ (by rw[HE.out]),rfl⟩
 ·have q:decide (s % 2=1)=false:=decide_eq_false (by omega)
  have HQ:=hide q
  have HE:=hide (HN.out.trans (if_neg ho));clear ho HN hs q
  go_enter Tryz.func293,Tryz.ntmps293
  go_wp2_with (first|(go_at_call 295;refine(c_unsigned _ _).mono ?_;rintro e w' ⟨rfl,rfl⟩;rw[HU.out])|(go_at_call 296;refine(c_isOdd _ _).mono ?_;rintro e w' ⟨rfl,rfl⟩;rw[HQ.out])|(go_at_call 242;refine(c_Wrap _ _).mono ?_;rintro e w' ⟨rfl,rfl⟩))
  go_ret
  exact⟨xZ (by rw[HE.out]),rfl⟩
theorem look_facts (t:List Int) (a:Int) (h0:0<t.length) (hn:t.length≤16): ∃ (u:Int) (j:Nat),a % 4294967296=u∧bits .and .i64 a 4294967295=u∧0≤u∧u<4294967296∧IntKind.i64.wrap ((t.length:Int) * u)=(t.length:Int) * u∧(t.length:Int) * u / 4294967296=(j:Int)∧j<t.length∧lookF t a=t.getD j 0:=by
 have hu0:0≤a % 4294967296:=by omega
 have hu1:a % 4294967296<4294967296:=by omega
 generalize hu:a % 4294967296=u at *
 have h1:0≤(t.length:Int) * u:=Int.mul_nonneg (by omega) hu0
 have h2:(t.length:Int) * u≤(t.length:Int) * 4294967295:=Int.mul_le_mul_of_nonneg_left (by omega) (by omega)
 have h3:(t.length:Int) * u / 4294967296<t.length:=by omega
 refine⟨u,((t.length:Int) * u / 4294967296).toNat,rfl,by rw[and_32,hu],hu0,hu1,IntWalk.i64_in _ (by omega),by omega,by omega,?_⟩
 unfold lookF
 rw[hu]
theorem c_l06Look (v:Value) (t:List Int) (a:Int) (w:World) (hr:RdI w v t) (h0:0<t.length) (hn:t.length≤16):Calls Tryz.prog 290 #[v,.int .i64 a] w fun e w'=>e= .returned (.int .i64 (lookF t a))∧w=w':=by
 obtain⟨u,j,hu,ha,u0,u1,hw,hj,hjl,hL⟩:=look_facts t a h0 hn
 have HL:=hide hL;clear hL hu
 obtain⟨A,cap,rfl,hln,hm,hx⟩:=hr.open_
 have hgj:=gE hjl
 obtain⟨b,off,rfl,hb,hc⟩:=hx j _ hgj
 have HE:=hide (show t.getD j 0=t[j] by rw[List.getD_eq_getElem?_getD,hgj];rfl)
 generalize t[j]=y at *
 clear hx hgj hr
 generalize hM:(t.length:Int) * u=M at *
 generalize lookF t a=N at *
 go_enter Tryz.func290,Tryz.ntmps290
 go_wp2
 go_ret
 exact⟨xZ (by rw[HL.out,HE.out]),rfl⟩
end
end Go.Proofs.YtoibekfhepnedaaGreat
