/- Contracts: reading a cache, both sides. Rendering a patch, in plain words. Contracts: rendering, small functions of both sides. -/
import Derived.Test.YtoibekfhepnedaaGreatQAmExactMix
import Derived.Test.YtoibekfhepnedaaGreatQAbExactMix
import Derived.Test.YtoibekfhepnedaaGreatQAjExactMix
set_option linter.unusedVariables false
set_option linter.unusedSimpArgs false
set_option maxHeartbeats 2000000
set_option maxRecDepth 20000
namespace Go.Proofs.YtoibekfhepnedaaGreat
section
open Go.RowKit
theorem uR (n:Nat) (w:World) (hn:n≤1048576):Calls Tryz.prog 193 #[.int .i64 (n:Int)] w fun e w'=>e= .returned (.slice (some ⟨w.heap.size,0,none⟩) n n)∧OwI 2 w' w.heap.size (.slice (some ⟨w.heap.size,0,none⟩) n n) (List.replicate n 0)∧Below w.heap.size w w':=by
 obtain⟨i0,hi,hz0,hz1,hz2⟩:=info_parts xWz
 go_enter Tryz.func193,Tryz.ntmps193
 go_wp2_with (at_make;refine wpList_make_full _ rfl _ _ _ rfl w.heap.size 2 i0 _ 1 Tryz.underlying26 hi hz0 hz1 .i64 .i64 _ _ n rfl rfl rfl rfl (by rw[hz2];omega) (by unfold maxLen;omega) zJ ?_;intro w1 hown1 hg1)
 have ho1:OwI 2 w1 w.heap.size _ _:=OwI.made _ w1 (n:=n) hg1.size (by unfold maxLen;omega) 0 hown1;have hb1:Below w.heap.size w w1:=zR.grown hg1 zJ (by simp);clear hown1 hg1;have HO:=xN ho1;have HB:=xN hb1;clear ho1 hb1;go_wp2;go_ret
 exact⟨rfl,HO.out,HB.out⟩
def vF (xs:List Int) (i:Int):Int:=if 0≤i∧i<(xs.length:Int) then xs.getD i.toNat 0 else 0
theorem smpAt_in {xs:List Int} {k:Nat} {x:Int} (h:xs[k]?=some x):vF xs (k:Int)=x:=by
 have hl:=(List.getElem?_eq_some_iff.1 h).1;unfold vF;rw[if_pos ⟨by omega,by omega⟩,Int.toNat_natCast,List.getD_eq_getElem?_getD,h]
 rfl
theorem smpAt_out {xs:List Int} {i:Int} (h: ¬ (0≤i∧i<(xs.length:Int))):vF xs i=0:=by unfold vF;rw[if_neg h]
def cutL (xs:List Int) (from_:Int) (n:Nat):List Int:=(List.range n).map fun(k:Nat)=>vF xs (from_+(k:Int))
theorem yYz (xs:List Int) (f:Int) (n:Nat):(cutL xs f n).length=n:=by simp[cutL]
theorem cutL_snoc (xs:List Int) (f:Int) (n:Nat):cutL xs f (n+1)=cutL xs f n++ [vF xs (f+(n:Int))]:=by
 unfold cutL;rw[List.range_succ,List.map_append];rfl
def cutZ (xs:List Int) (f:Int) (n k:Nat):List Int:=cutL xs f k++List.replicate (n - k) 0
theorem length_cutZ {xs:List Int} {f:Int} {n k:Nat} (h:k≤n):(cutZ xs f n k).length=n:=by simp[cutZ,yYz];omega
theorem cutZ_set {xs:List Int} {f:Int} {n k:Nat} (h:k<n):(cutZ xs f n k).set k (vF xs (f+(k:Int)))=cutZ xs f n (k+1):=by
 unfold cutZ;rw[List.set_append_right _ _ (by rw[yYz];exact zJ),yYz,Nat.sub_self,cutL_snoc,List.append_assoc]
 congr 1
 rw[show n - k=(n - (k+1))+1 by omega,List.replicate_succ]
 rfl
theorem cutZ_full (xs:List Int) (f:Int) (n:Nat):cutZ xs f n n=cutL xs f n:=by simp[cutZ]
theorem cutZ_none (xs:List Int) (f:Int) (n:Nat):cutZ xs f n 0=List.replicate n 0:=by simp[cutZ,cutL]
theorem c_has (v:Value) (xs:List Int) (n:Int) (w:World) (hr:RdI w v xs):Calls Tryz.prog 62 #[v,.int .i64 n] w fun e w'=>e= .returned (.bool (decide (n ∈ xs)))∧w=w':=by
 obtain⟨A,cap,rfl,hl,hc,hx⟩:=hr.open_;have HX:=xN hx;clear hx hr
 go_enter Tryz.func62,Tryz.ntmps62
 go_wp2
 go_loop [9] (fun i=> ∃ k:Nat,k≤xs.length∧i= .int .i64 k∧vP xs (fun _ x=>x≠n) k) (fun i=>xs.length - (intOf i).toNat)
 case atStart=>exact⟨0,Nat.zero_le _,rfl,vP.zero⟩
 case round=>
  obtain⟨k,hk,rfl,hs⟩:=hrel;have HS:=xN hs;clear hs;by_cases hlt:k<xs.length
  ·have hgk:=gE hlt
   obtain⟨b,off,rfl,hb,hcell⟩:=HX.out k xs[k] hgk;generalize xs[k]=x at *;have HG:=xN hgk;clear hgk;by_cases hq:x=n
   ·have q:(n == x)=true:=xA hq.symm
    have HQ:=xN hq;clear hq;go_wp2;go_ret
    exact⟨yP (decide_eq_true (by rw[←HQ.out];exact List.mem_of_getElem? HG.out)).symm,rfl⟩
   ·have q:(n == x)=false:=yZ (fun e=>hq e.symm)
    have HQ:=xN hq;clear hq;go_wp2
    go_round
    case rel=>exact⟨k+1,by omega,by go_num,HS.out.step HG.out HQ.out⟩
    case measure=>simp[intOf];omega
  ·have hall:=xN (HS.out.all zM)
   go_wp2;go_ret
   exact⟨yP (decide_eq_false (fun h=>by
    obtain⟨i,hi,e⟩:=List.mem_iff_getElem.1 h;exact hall.out i _ (gE hi) e)).symm,rfl⟩
theorem c_at (v:Value) (xs:List Int) (i:Int) (w:World) (h0:0≤i) (hr:RdI w v xs):Calls Tryz.prog 198 #[v,.int .i64 i] w fun e w'=>e= .returned (.int .i64 (vF xs i))∧w=w':=by
 have HR:=xN hr;obtain⟨A,cap,rfl,hl,hc,hx⟩:=hr.open_;have HX:=xN hx;clear hx hr;obtain⟨k,rfl⟩: ∃ k:Nat,i=(k:Int):=⟨i.toNat,by omega⟩;have SZ:True:=trivial;by_cases hlt:k<xs.length
 ·have hgk:=gE hlt
  obtain⟨b,off,rfl,hb,hcell⟩:=HX.out k xs[k] hgk;generalize xs[k]=y at *;have HG:=xN hgk;clear hgk;have n1:((k:Int)<(xs.length:Int)):=by omega
  have HS:=xN (smpAt_in HG.out)
  go_enter Tryz.func198,Tryz.ntmps198
  go_wp2_with (go_at_call 86;refine(vZ _ xs _ HR.out).mono ?_;rintro e w' ⟨rfl,rfl⟩)
  go_ret
  exact⟨wL HS.out.symm,rfl⟩
 ·have HS:=xN (smpAt_out (xs:=xs) (i:=(k:Int)) zM)
  go_enter Tryz.func198,Tryz.ntmps198
  go_wp2_with (go_at_call 86;refine(vZ _ xs _ HR.out).mono ?_;rintro e w' ⟨rfl,rfl⟩)
  go_ret
  exact⟨wL HS.out.symm,rfl⟩
theorem c_l03At (v:Value) (xs:List Int) (i:Int) (w:World) (hr:RdI w v xs):Calls Tryz.prog 189 #[v,.int .i64 i] w fun e w'=>e= .returned (.int .i64 (vF xs i))∧w=w':=by
 obtain⟨A,cap,rfl,hl,hc,hx⟩:=hr.open_;have HX:=xN hx;clear hx hr;by_cases hin:0≤i∧i<(xs.length:Int)
 ·have hq:inB i 0 ((xs.length:Int) - 1)=true:=xK.2 zM
  obtain⟨k,rfl⟩: ∃ k:Nat,i=(k:Int):=⟨i.toNat,by omega⟩;have hlt:k<xs.length:=by omega
  have hgk:=gE hlt;obtain⟨b,off,rfl,hb,hcell⟩:=HX.out k xs[k] hgk;generalize xs[k]=y at *;have HG:=xN hgk;clear hgk;have n1:((k:Int)<(xs.length:Int)):=by omega
  have HS:=xN (smpAt_in HG.out);clear hin
  go_enter Tryz.func189,Tryz.ntmps189
  go_wp2_with (go_at_call 87;refine(wI _ _ _ _).mono ?_;rintro e w' ⟨rfl,rfl⟩)
  go_ret
  exact⟨wL HS.out.symm,rfl⟩
 ·have hq:inB i 0 ((xs.length:Int) - 1)=false:=zEy.2 zM
  have HS:=xN (smpAt_out (xs:=xs) hin);clear hin
  go_enter Tryz.func189,Tryz.ntmps189
  go_wp2_with (go_at_call 87;refine(wI _ _ _ _).mono ?_;rintro e w' ⟨rfl,rfl⟩)
  go_ret
  exact⟨wL HS.out.symm,rfl⟩
theorem c_l03Slice (v:Value) (xs:List Int) (f:Int) (n:Nat) (w:World) (h0: -1048576≤f) (h1:f≤1048576) (hn:n≤1048576) (hr:RdI w v xs):Calls Tryz.prog 128 #[v,.int .i64 f,.int .i64 (n:Int)] w fun e w'=> ∃ v',e= .returned v'∧OwI 2 w' w.heap.size v' (cutL xs f n)∧Below w.heap.size w w':=by
 have HR:=xN hr;have HN0:=xN (vL w);have HA0:=xN (show Below w.heap.size w (w.alloc (.cells #[] 2)) from zR.alloc zJ _);obtain⟨A,cap,rfl,hl,hc,hx⟩:=hr.open_;clear hx hr
 go_enter Tryz.func128,Tryz.ntmps128
 go_wp2
 go_loopw [7,8] (fun r i wr=> ∃ k:Nat,k≤n∧i= .int .i64 k∧OwI 2 wr w.heap.size r (cutL xs f k)∧Below w.heap.size w wr) (fun _ i _=>n - (intOf i).toNat)
 case atStart=>exact⟨0,Nat.zero_le _,rfl,HN0.out,HA0.out⟩
 case round=>
  obtain⟨k,hk,rfl,ho,hbw⟩:=hrel;have HO:=xN ho;have HB:=xN hbw;have hsz:=hbw.size;clear ho hbw;by_cases hlt:k<n
  ·have e1:IntKind.i64.wrap (f+(k:Int))=f+(k:Int):=IntWalk.i64_in _ zM
   have hll:(cutL xs f k).length+1≤17592186044416:=by rw[yYz];omega
   go_wp2_with (first|(go_at_call 189;refine(c_l03At _ xs _ _ (Rd.below HR.out HB.out)).mono ?_;rintro e w' ⟨rfl,rfl⟩)|(at_builtin;refine zDz (n:=vF xs (f+(k:Int))) rfl _ _ rfl rfl HO.out rfl hll hsz ?_;intro v8 w8 ho8 hg8 hv8;have HO8:=xN ho8;have HB8:=xN (HB.out.grown hg8 hsz (fun j hj=>(HO.out.lt j hj).1));clear ho8 hg8 hv8))
   go_roundw
   case rel=>exact⟨k+1,by omega,by go_num,by rw[cutL_snoc];exact HO8.out,HB8.out⟩
   case measure=>simp[intOf];omega
  ·obtain rfl:k=n:=by omega
   go_wp2;go_ret
   exact⟨_,rfl,HO.out,HB.out⟩
theorem c_slice (v:Value) (xs:List Int) (f:Int) (n:Nat) (w:World) (h0:0≤f) (h1:f≤1048576) (hn:n≤1048576) (hr:RdI w v xs):Calls Tryz.prog 133 #[v,.int .i64 f,.int .i64 (n:Int)] w fun e w'=> ∃ v',e= .returned v'∧OwI 2 w' w.heap.size v' (cutL xs f n)∧Below w.heap.size w w':=by
 have HR:=xN hr;obtain⟨A,cap,rfl,hl,hc,hx⟩:=hr.open_;clear hx hr
 go_enter Tryz.func133,Tryz.ntmps133
 go_wp2_with fail
 refine(uR n _ hn).mono ?_;rintro e w1 ⟨rfl,ho1,hb1⟩;have HO1:=xN (show OwI 2 w1 w.heap.size (.slice (some ⟨w.heap.size,0,none⟩) n n) (cutZ xs f n 0) by rw[cutZ_none];exact ho1);have HB1:=xN hb1;clear ho1 hb1;go_wp2
 go_loopw [13] (fun i wr=> ∃ k:Nat,k≤n∧i= .int .i64 k∧OwI 2 wr w.heap.size (.slice (some ⟨w.heap.size,0,none⟩) n n) (cutZ xs f n k)∧Below w.heap.size w wr) (fun i _=>n - (intOf i).toNat)
 case atStart=>exact⟨0,Nat.zero_le _,rfl,HO1.out,HB1.out⟩
 case round=>
  obtain⟨k,hk,rfl,ho,hbw⟩:=hrel;have HO:=xN ho;have HB:=xN hbw;have hsz:=hbw.size;clear ho hbw;by_cases hlt:k<n
  ·have e1:IntKind.i64.wrap (f+(k:Int))=f+(k:Int):=IntWalk.i64_in _ zM
   have fr:=HO.out.freeN k;have n1:((k:Int)<(n:Int)):=by omega
   have hlk:k<(cutZ xs f n k).length:=by rw[length_cutZ hk];exact hlt
   have hck:=xN (HO.out.yJz (gE hlk));have ck:=hck.out;generalize (cutZ xs f n k)[k]=z0 at *;go_wp2_with (go_at_call 198;refine(c_at _ xs _ _ zM (Rd.below HR.out HB.out)).mono ?_;rintro e w' ⟨rfl,rfl⟩)
   have HO2:=xN (HO.out.setN k (vF xs (f+(k:Int))));have HG2:=xN (HO.out.grownN k (.int .i64 (vF xs (f+(k:Int)))))
   go_roundw
   case rel=>exact⟨k+1,by omega,by go_num,by rw[←cutZ_set hlt];exact HO2.out,HB.out.grown HG2.out hsz (fun j hj=>by injection hj with hj;omega)⟩
   case measure=>simp[intOf];omega
  ·obtain rfl:k=n:=by omega
   go_wp2;go_ret
   exact⟨_,rfl,by rw[←cutZ_full];exact HO.out,HB.out⟩
end
section
open Go.RowKit
theorem xMz {α:Type} {l:List α} {i:Nat} {x d:α} (h:i<l.length):(l.set i x).getD i d=x:=by
 rw[List.getD_eq_getElem?_getD,List.getElem?_set_self h];rfl
theorem yOy {α:Type} {l:List α} {i j:Nat} {x d:α} (h:i≠j):(l.set i x).getD j d=l.getD j d:=by
 rw[List.getD_eq_getElem?_getD,List.getElem?_set_ne h,List.getD_eq_getElem?_getD]
def wOz (s:Int):Int:=
 if (s % 4294967296) % 2=1 then wrp (((s % 4294967296 / 2).toNat ^^^ 2734686208:Nat):Int) else wrp (s % 4294967296 / 2)
def inF (n:xR) (frame vals:List Int):List Int:=if n.zG=1 then [frame.getD n.fA.toNat 0] else n.zK.map fun i=>vals.getD i.toNat 0
def lookF (t:List Int) (a:Int):Int:=t.getD ((t.length:Int) * (a % 4294967296) / 4294967296).toNat 0
def wK (n:xR) (tables:List (List Int)) (ins s:List Int):Int:=
 if n.zG=1 then ins.getD 0 0
 else if n.zG=2 then n.fA
 else if n.zG=3 then wrp (ins.getD 0 0+ins.getD 1 0)
 else if n.zG=4 then wrp (ins.getD 0 0 - ins.getD 1 0)
 else if n.zG=5 then wrp (n.fA * ins.getD 0 0)
 else if n.zG=6 then s.getD 0 0
 else if n.zG=7 then wrp (s.getD 0 0+ins.getD 0 0)
 else if n.zG=8 then wrp (ins.getD 0 0 - s.getD 0 0)
 else if n.zG=9 then wrp (ins.getD 0 0 * ins.getD 1 0)
 else if n.zG=10 then ins.getD 0 0 / ((2 ^ n.fA.toNat:Nat):Int)
 else if n.zG=11 then max (-n.fA) (min n.fA (ins.getD 0 0))
 else if n.zG=12 then s.getD 0 0
 else if n.zG=13 then lookF (tables.getD n.fA.toNat []) (ins.getD 0 0)
 else if n.zG=14 then s.getD 0 0
 else if n.zG=15 then (if 0≤ins.getD 0 0 then ins.getD 1 0 else ins.getD 2 0)
 else if n.zG=16 then (if 0<ins.getD 1 0 then ins.getD 0 0 else s.getD 0 0)
 else wrp (ins.getD 0 0+n.fA * s.getD 0 0)
def xW (n:xR) (ins s:List Int) (out:Int):List Int:=
 if n.zG=6 then s.drop 1++ [ins.getD 0 0]
 else if n.zG=17 then s.drop 1++ [out]
 else if n.zG=7 then [out]
 else if n.zG=16 then [out]
 else if n.zG=8 then [ins.getD 0 0]
 else if n.zG=12 then [wrp (s.getD 0 0+ins.getD 0 0)]
 else if n.zG=14 then [wOz (s.getD 0 0)]
 else []
section
variable (p:xO) (cells:List (List Int)) (frame:List Int)
def yGz (vals:List Int) (i:Int):List Int:=
 match p.zC[i.toNat]? with
 |some n=>vals.set i.toNat (wK n p.zV (inF n frame vals) (cells.getD i.toNat []))
 |none=>vals
def vQ (l:List Int) (v:List Int):List Int:=l.foldl (yGz p cells frame) v
def uK:List Int:=vQ p cells frame (wD p.zC) (List.replicate p.zC.length 0)
def yJz (vals:List Int) (i:Nat) (n:xR):List Int:=xW n (inF n frame vals) (cells.getD i []) (vals.getD i 0)
def uJ (vals:List Int):List (List Int):=p.zC.mapIdx fun i n=>yJz cells frame vals i n
end
section
variable {p:xO} {cells:List (List Int)} {frame:List Int}
theorem length_valStep (v:List Int) (i:Int):(yGz p cells frame v i).length=v.length:=by
 unfold yGz;split<;>simp
theorem uU (l:List Int): ∀ v,(vQ p cells frame l v).length=v.length:=by
 induction l with
 |nil=>intro v;rfl
 |cons i l ih=>intro v;show (vQ p cells frame l (yGz p cells frame v i)).length=_;rw[ih,length_valStep]
theorem wIz:(uK p cells frame).length=p.zC.length:=by unfold uK;rw[uU,List.length_replicate]
theorem uOz (l:List Int) (i:Int) (v:List Int):vQ p cells frame (l++ [i]) v=yGz p cells frame (vQ p cells frame l v) i:=by
 unfold vQ;rw[List.foldl_append];rfl
theorem wZz {v:List Int} {i:Int} {x:Nat} (h:x≠i.toNat):(yGz p cells frame v i).getD x 0=v.getD x 0:=by
 unfold yGz
 split
 ·rw[List.getD_eq_getElem?_getD,List.getElem?_set_ne (fun e=>h e.symm),List.getD_eq_getElem?_getD]
 ·rfl
theorem valsOf_other {l:List Int} {x:Nat} : ∀ {v:List Int},(∀ i ∈ l,x≠i.toNat)→(vQ p cells frame l v).getD x 0=v.getD x 0:=by
 induction l with
 |nil=>intro v _;rfl
 |cons i l ih=>
  intro v h
  show (vQ p cells frame l (yGz p cells frame v i)).getD x 0=_
  rw[ih (fun j hj=>h j (by simp[hj])),wZz (h i (by simp))]
end
theorem zYy {nodes:List xR} (k:Nat): ∀ m,(xJ nodes (k+m)).length≤(xJ nodes k).length+m
 |0=>zJ
 |m+1=>by
  have ih:=zYy (nodes:=nodes) k m;rw[←Nat.add_assoc];simp only[xJ]
  split
  ·simp;omega
  ·omega
theorem vVz {nodes:List xR} (h:(wD nodes).length=nodes.length) {k:Nat} (hk:k≤nodes.length):(xJ nodes k).length=k:=by
 have h1:=yLy (nodes:=nodes) k;have h2:=zYy (nodes:=nodes) k (nodes.length - k);rw[show k+(nodes.length - k)=nodes.length by omega] at h2;unfold wD at h
 omega
theorem order_next {nodes:List xR} (h:(wD nodes).length=nodes.length) {k:Nat} (hk:k<nodes.length): ∃ i,vGz nodes (xJ nodes k)=some i∧xJ nodes (k+1)=xJ nodes k++ [(i:Int)]:=by
 cases hn:vGz nodes (xJ nodes k) with
 |some i=>exact⟨i,rfl,wYz hn⟩
 |none=>
  have h1:=vVz h (k:=k+1) zM;have h2:=vVz h (k:=k) zM;rw[zUy hn 1] at h1
  omega
theorem vWz {nodes:List xR} (h:(wD nodes).length=nodes.length): ∀ m k,k+m=nodes.length→(wD nodes).take k=xJ nodes k
 |0,k,e=>by
  have:k=nodes.length:=by omega
  subst this;unfold wD at h ⊢;rw[List.take_of_length_le zM]
 |m+1,k,e=>by
  obtain⟨i,_,h2⟩:=order_next h (k:=k) zM;have ih:=vWz h m (k+1) zM;have h3:=vVz h (k:=k) zM;have:(wD nodes).take k=((wD nodes).take (k+1)).take k:=by rw[List.take_take];congr 1;omega
  rw[this,ih,h2,List.take_append_of_le_length zM,List.take_of_length_le zM]
theorem yPy {nodes:List xR} (h:(wD nodes).length=nodes.length) {k:Nat} {i:Int} (hk:(wD nodes)[k]?=some i):
  ∃ n:xR,0≤i∧nodes[i.toNat]?=some n∧i ∉ (wD nodes).take k∧ ∀ f ∈ uS n,f ∈ (wD nodes).take k:=by
 have hl:k<nodes.length:=by have:=(List.getElem?_eq_some_iff.1 hk).1;omega
 obtain⟨j,h1,h2⟩:=order_next h hl;have h3:=vVz h (k:=k) zM;have e:(wD nodes).take (k+1)=(wD nodes).take k++ [i]:=by rw[List.take_add_one,hk];rfl
 rw[vWz h (nodes.length - (k+1)) (k+1) zM,vWz h (nodes.length - k) k zM,h2] at e;obtain rfl:(j:Int)=i:=by simpa using e
 obtain⟨h4,h5⟩:=nextF_inv h1;rw[vWz h (nodes.length - k) k zM];unfold zZz at h5;rw[gE h4] at h5;simp only[Option.map_some,Option.getD_some,Bool.and_eq_true,Bool.not_eq_true',List.all_eq_true] at h5;refine⟨nodes[j],by omega,by rw[Int.toNat_natCast];exact gE h4,?_,fun f hf=>?_⟩
 ·have:=h5.1;simpa using this
 ·have:=h5.2 f hf;simpa using this
theorem order_all {nodes:List xR} (h:(wD nodes).length=nodes.length) {i:Nat} (hi:i<nodes.length):(i:Int) ∈ wD nodes:=by
 have hn:=xVz (nodes:=nodes) nodes.length
 apply Classical.byContradiction
 intro hm
 have:=nodup_bound (n:=nodes.length) (l:=(i:Int) :: wD nodes) (by rw[List.nodup_cons];exact⟨hm,hn.1⟩) (fun x hx=>by
  rcases List.mem_cons.1 hx with rfl|hx
  ·omega
  ·exact hn.2 x hx)
 rw[List.length_cons,h] at this
 omega
section
variable {p:xO} {cells:List (List Int)} {frame:List Int}
structure PlayOk (p:xO):Prop where
 order:(wD p.zC).length=p.zC.length
 from_:Each p.zC fun _ x=>Idx x.zK (p.zC.length:Int)
theorem vN.play (h:vN p):PlayOk p:=⟨h.order,fun i x hx=>(h.formed.nodes i x hx).2.1⟩
theorem inF_same {n:xR} {v v':List Int} (h: ∀ f ∈ n.zK,v.getD f.toNat 0=v'.getD f.toNat 0):inF n frame v=inF n frame v':=by
 unfold inF
 split
 ·rfl
 ·exact List.map_congr_left h
theorem uPz (h:PlayOk p) {v:List Int} (hv:v.length=p.zC.length): ∀ k,k≤p.zC.length→ ∀ x ∈ (wD p.zC).take k,
  (vQ p cells frame ((wD p.zC).take k) v).getD x.toNat 0=(uK p cells frame).getD x.toNat 0:=by
 -- both begin alike
 have key: ∀ (u:List Int),u.length=p.zC.length→ ∀ k,k≤p.zC.length→ ∀ x ∈ (wD p.zC).take k,(vQ p cells frame ((wD p.zC).take k) u).getD x.toNat 0=(vQ p cells frame ((wD p.zC).take k) (List.replicate p.zC.length 0)).getD x.toNat 0:=by
  intro u hu k
  induction k with
  |zero=>intro _ x hx;simp at hx
  |succ k ih=>
   intro hk x hx;have hlt:k<(wD p.zC).length:=by rw[h.order];omega
   have hg:=gE hlt;generalize (wD p.zC)[k]=i at hg;obtain⟨n,h0,h1,h2,h3⟩:=yPy h.order hg;have ht:(wD p.zC).take (k+1)=(wD p.zC).take k++ [i]:=by rw[List.take_add_one,hg];rfl
   rw[ht] at hx ⊢;rw[uOz,uOz];have ih':=ih zM;by_cases e:x.toNat=i.toNat
   ·rw[e]
    have hi:i.toNat<p.zC.length:=(List.getElem?_eq_some_iff.1 h1).1;unfold yGz;rw[h1];dsimp only;rw[xMz (by rw[uU,hu];exact hi),xMz (by rw[uU,List.length_replicate];exact hi)];by_cases h6:n.zG=6
    ·unfold wK
     simp[h6]
    ·rw[inF_same (fun f hf=>ih' f (h3 f (by unfold uS;rw[if_neg h6];exact hf)))]
   ·rw[wZz e,wZz e]
    rcases List.mem_append.1 hx with hx|hx
    ·exact ih' x hx
    ·simp at hx;subst hx;exact absurd rfl e
 intro k hk x hx;rw[key v hv k hk x hx];have hs:wD p.zC=(wD p.zC).take k++(wD p.zC).drop k:=(List.take_append_drop _ _).symm
 have hf:uK p cells frame=vQ p cells frame ((wD p.zC).drop k) (vQ p cells frame ((wD p.zC).take k) (List.replicate p.zC.length 0)):=by
  unfold uK
  conv=>lhs;rw[hs]
  unfold vQ;rw[List.foldl_append]
 rw[hf];refine(valsOf_other (fun i hi e=>?_)).symm;have hn:=(xVz (nodes:=p.zC) p.zC.length);have hnd:(wD p.zC).Nodup:=hn.1;rw[hs,List.nodup_append] at hnd;have hx0:=hn.2 x (List.mem_of_mem_take hx);have hi0:=hn.2 i (List.mem_of_mem_drop hi);exact hnd.2.2 x hx i hi zM
theorem vals_any (h:PlayOk p) {v:List Int} (hv:v.length=p.zC.length):vQ p cells frame (wD p.zC) v=uK p cells frame:=by
 apply List.ext_getElem?
 intro i;by_cases hi:i<p.zC.length
 ·have:=uPz (cells:=cells) (frame:=frame) h hv p.zC.length zJ (i:Int) (by rw[←h.order,List.take_length];exact order_all h.order hi)
  rw[←h.order,List.take_length,Int.toNat_natCast,List.getD_eq_getElem?_getD,List.getD_eq_getElem?_getD] at this;rw[gE (by rw[uU,hv];exact hi),gE (by rw[wIz];exact hi)] at this ⊢
  simpa using this
 ·rw[List.getElem?_eq_none (by rw[uU,hv];omega),List.getElem?_eq_none (by rw[wIz];omega)]
theorem in_turn (h:PlayOk p) {v:List Int} (hv:v.length=p.zC.length) {k:Nat} {i:Int} {n:xR} (hk:(wD p.zC)[k]?=some i) (hn:p.zC[i.toNat]?=some n) (h6:n.zG≠6):
  inF n frame (vQ p cells frame ((wD p.zC).take k) v)=inF n frame (uK p cells frame):=by
 obtain⟨n',_,h1,_,h3⟩:=yPy h.order hk;rw[hn] at h1;injection h1 with h1;subst h1;refine inF_same (fun f hf=>?_);exact uPz h hv k (by have:=(List.getElem?_eq_some_iff.1 hk).1;rw[h.order] at this;omega) f (h3 f (by unfold uS;rw[if_neg h6];exact hf))
end
def wO (n:xR):List Int:=
 if n.zG=6 then List.replicate n.fA.toNat 0
 else if n.zG=17 then List.replicate n.fB.toNat 0
 else if n.zG=7∨n.zG=8∨n.zG=16 then [0]
 else if n.zG=12∨n.zG=14 then [n.fA]
 else []
section
variable (p:xO) (ins:List (List Int))
def xNz (t:Nat):List Int:=ins.map fun l=>vF l (t:Int)
def zXz:Nat→List (List Int)
 |0=>p.zC.map wO
 |t+1=>uJ p (zXz t) (xNz ins t) (uK p (zXz t) (xNz ins t))
def xGz (t:Nat):List Int:=uK p (zXz p ins t) (xNz ins t)
def renderF (n:Nat):List (List Int):=p.zT.map fun o=>(List.range n).map fun t=>(xGz p ins t).getD o.toNat 0
end
end
section
open Go.RowKit
theorem c_mapped (v u:Value) (l vals:List Int) (w:World) (hl:RdI w v l) (hv:RdI w u vals) (hi:Idx l (vals.length:Int)) (hn:l.length≤1048576):Calls Tryz.prog 288 #[v,u] w fun e w'=> ∃ v',e= .returned v'∧OwI 2 w' w.heap.size v' (l.map fun i=>vals.getD i.toNat 0)∧Below w.heap.size w w':=by
 have HI:=xN hi;obtain⟨A,cap,rfl,hln,hm,hx⟩:=hl.open_;obtain⟨A2,cap2,rfl,hln2,hm2,hx2⟩:=hv.open_;have HX:=xN hx;have HX2:=xN hx2;clear hx hx2 hi hl hv
 go_enter Tryz.func288,Tryz.ntmps288
 go_wp2
 go_loopw [5,11] (fun o i wr=> ∃ k:Nat,k≤l.length∧i= .int .i64 (k:Int)∧OwI 2 wr w.heap.size o ((l.take k).map fun i=>vals.getD i.toNat 0)∧Below w.heap.size w wr) (fun _ i _=>l.length - (intOf i).toNat)
 case atStart=>exact⟨0,Nat.zero_le _,rfl,vL w,zR.alloc zJ _⟩
 case round=>
  obtain⟨k,hk,rfl,ho,hb⟩:=hrel;have HO:=xN ho;have HB:=xN hb;have hsz:=hb.size;clear ho hb;by_cases hlt:k<l.length
  ·have hgk:=gE hlt
   obtain⟨b,off,rfl,hb1,hc⟩:=HX.out k l[k] hgk;have hii:=HI.out k _ hgk;have d0:=(HB.out.cell hb1).trans hc;have hb2:b<wr.heap.size:=zW hb1 HB.out.size;generalize l[k]=i at *;have HGK:=xN hgk;clear hgk hc;have hj:i.toNat<vals.length:=by omega
   have hgj:=gE hj;obtain⟨b4,off4,rfl,hb3,hc3⟩:=HX2.out i.toNat _ hgj;have d1:=(HB.out.cell hb3).trans hc3;have hb4:b4<wr.heap.size:=zW hb3 HB.out.size;generalize vals[i.toNat]=x at *;have HGJ:=xN hgj;clear hgj hc3;have n0:0≤i:=hii.1;have n1:i<(vals.length:Int):=by omega
   have hlen:((l.take k).map fun i=>vals.getD i.toNat 0).length+1≤17592186044416:=by rw[List.length_map,List.length_take];omega
   go_wp2_with (at_builtin;refine zDz rfl _ _ rfl rfl HO.out rfl hlen hsz ?_;intro v5 w5 ho5 hg5 hv5;have hb5:=vH HB.out HO.out hg5 zJ hsz;have HO5:=xN ho5;have HB5:=xN hb5;clear ho5 hb5 hg5 hv5)
   go_roundw
   case rel=>exact⟨k+1,by omega,by go_num,by rw[xZ HGK.out,List.map_append,List.map_cons,List.map_nil,List.getD_eq_getElem?_getD (l:=vals),HGJ.out];exact HO5.out,HB5.out⟩
   case measure=>simp[intOf];omega
  ·obtain rfl:k=l.length:=by omega
   go_wp2;go_ret
   exact⟨_,rfl,by have:=HO.out;rwa [List.take_length] at this,HB.out⟩
theorem c_l07Map (v u:Value) (l vals:List Int) (w:World) (hl:RdI w v l) (hv:RdI w u vals) (hi:Idx l (vals.length:Int)) (hn:l.length≤1048576):Calls Tryz.prog 291 #[v,u] w fun e w'=> ∃ v',e= .returned v'∧OwI 2 w' w.heap.size v' (l.map fun i=>vals.getD i.toNat 0)∧Below w.heap.size w w':=by
 have HI:=xN hi;obtain⟨A,cap,rfl,hln,hm,hx⟩:=hl.open_;obtain⟨A2,cap2,rfl,hln2,hm2,hx2⟩:=hv.open_;have HX:=xN hx;have HX2:=xN hx2;clear hx hx2 hi hl hv
 go_enter Tryz.func291,Tryz.ntmps291
 go_wp2
 go_loopw [5,6] (fun o i wr=> ∃ k:Nat,k≤l.length∧i= .int .i64 (k:Int)∧OwI 2 wr w.heap.size o ((l.take k).map fun i=>vals.getD i.toNat 0)∧Below w.heap.size w wr) (fun _ i _=>l.length - (intOf i).toNat)
 case atStart=>exact⟨0,Nat.zero_le _,rfl,vL w,zR.alloc zJ _⟩
 case round=>
  obtain⟨k,hk,rfl,ho,hb⟩:=hrel;have HO:=xN ho;have HB:=xN hb;have hsz:=hb.size;clear ho hb;by_cases hlt:k<l.length
  ·have hgk:=gE hlt
   obtain⟨b,off,rfl,hb1,hc⟩:=HX.out k l[k] hgk;have hii:=HI.out k _ hgk;have d0:=(HB.out.cell hb1).trans hc;have hb2:b<wr.heap.size:=zW hb1 HB.out.size;generalize l[k]=i at *;have HGK:=xN hgk;clear hgk hc;have hj:i.toNat<vals.length:=by omega
   have hgj:=gE hj;obtain⟨b4,off4,rfl,hb3,hc3⟩:=HX2.out i.toNat _ hgj;have d1:=(HB.out.cell hb3).trans hc3;have hb4:b4<wr.heap.size:=zW hb3 HB.out.size;generalize vals[i.toNat]=x at *;have HGJ:=xN hgj;clear hgj hc3;have n0:0≤i:=hii.1;have n1:i<(vals.length:Int):=by omega
   have hlen:((l.take k).map fun i=>vals.getD i.toNat 0).length+1≤17592186044416:=by rw[List.length_map,List.length_take];omega
   go_wp2_with (at_builtin;refine zDz rfl _ _ rfl rfl HO.out rfl hlen hsz ?_;intro v5 w5 ho5 hg5 hv5;have hb5:=vH HB.out HO.out hg5 zJ hsz;have HO5:=xN ho5;have HB5:=xN hb5;clear ho5 hb5 hg5 hv5)
   go_roundw
   case rel=>exact⟨k+1,by omega,by go_num,by rw[xZ HGK.out,List.map_append,List.map_cons,List.map_nil,List.getD_eq_getElem?_getD (l:=vals),HGJ.out];exact HO5.out,HB5.out⟩
   case measure=>simp[intOf];omega
  ·obtain rfl:k=l.length:=by omega
   go_wp2;go_ret
   exact⟨_,rfl,by have:=HO.out;rwa [List.take_length] at this,HB.out⟩
theorem c_mAdd (a b:Int) (w:World) (ha:Smp a) (hb:Smp b):Calls Tryz.prog 238 #[.int .i64 a,.int .i64 b] w fun e w'=>e= .returned (.int .i64 (wrp (a+b)))∧w=w':=by
 have e1:=vOz ha;have e2:=vOz hb;have HE1:=xN e1;have HE2:=xN e2;clear e1 e2;unfold Smp at ha hb
 go_enter Tryz.func238,Tryz.ntmps238
 go_wp2_with fail
 refine(yEz _ _).mono ?_;rintro e w' ⟨rfl,rfl⟩;rw[HE1.out];go_wp2_with fail
 refine(yEz _ _).mono ?_;rintro e w' ⟨rfl,rfl⟩;rw[HE2.out];go_wp2_with fail
 refine(yEz _ _).mono ?_;rintro e w' ⟨rfl,rfl⟩;go_wp2;go_ret
 exact⟨rfl,rfl⟩
theorem zKy {a b:Int} (ha:Smp a) (hb:Smp b): -4611686018427387904≤a * b∧a * b≤4611686018427387904:=by
 unfold Smp at *
 have h:(a * b).natAbs≤4611686018427387904:=by
  rw[Int.natAbs_mul];have h1:a.natAbs≤2147483648:=by omega
  have h2:b.natAbs≤2147483648:=by omega
  exact Nat.mul_le_mul h1 h2
 omega
theorem uQz (a b:Int) (w:World) (ha:Smp a) (hb:Smp b):Calls Tryz.prog 239 #[.int .i64 a,.int .i64 b] w fun e w'=>e= .returned (.int .i64 (wrp (a * b)))∧w=w':=by
 have h:=zKy ha hb;have ea:wrp a=a:=vOz ha;have eb:wrp b=b:=vOz hb;have hw:IntKind.i64.wrap (a * b)=a * b:=IntWalk.i64_in _ zM;have EA:=xN ea;have EB:=xN eb;clear ea eb ha hb
 go_enter Tryz.func239,Tryz.ntmps239
 go_wp2_with fail
 refine(yEz _ _).mono ?_;rintro e w' ⟨rfl,rfl⟩;rw[EA.out];go_wp2_with fail
 refine(yEz _ _).mono ?_;rintro e w' ⟨rfl,rfl⟩;rw[EB.out];go_wp2_with fail
 refine(yEz _ _).mono ?_;rintro e w' ⟨rfl,rfl⟩;go_wp2;go_ret
 exact⟨rfl,rfl⟩
theorem yBy (x:Int) (w:World):Calls Tryz.prog 295 #[.int .i64 x] w fun e w'=>e= .returned (.int .i64 (x % 4294967296))∧w=w':=by
 go_enter Tryz.func295,Tryz.ntmps295
 go_wp2;go_ret
 exact⟨rfl,rfl⟩
theorem c_isOdd (x:Int) (w:World):Calls Tryz.prog 296 #[.int .i64 x] w fun e w'=>e= .returned (.bool (decide (x % 2=1)))∧w=w':=by
 have h:=and_1 x
 go_enter Tryz.func296,Tryz.ntmps296
 go_wp2;go_ret
 exact⟨yP (by rw[Bool.eq_iff_iff];simp),rfl⟩
theorem noise_facts (s:Int): ∃ u:Int,s % 4294967296=u∧0≤u∧u<4294967296∧bits .and .i64 s 4294967295=u∧bits .and .i64 u 1=u % 2∧bits .xor .i64 (u / 2) 2734686208=(((u / 2).toNat ^^^ 2734686208:Nat):Int)∧wOz s=(if u % 2=1 then wrp (((u / 2).toNat ^^^ 2734686208:Nat):Int) else wrp (u / 2)):=by
 refine⟨s % 4294967296,rfl,by omega,by omega,and_32 s,and_1 _,?_,rfl⟩;have h:=bits_xor_nat (s % 4294967296 / 2).toNat 2734686208 zM zM;rw[show (((s % 4294967296 / 2).toNat:Nat):Int)=s % 4294967296 / 2 by omega] at h;exact h
theorem c_l06Noise (s:Int) (w:World):Calls Tryz.prog 292 #[.int .i64 s] w fun e w'=>e= .returned (.int .i64 (wOz s))∧w=w':=by
 obtain⟨u,hu,u0,u1,ha,h1,hx,hn⟩:=noise_facts s;have HN:=xN hn;clear hn hu;generalize hX:(((u / 2).toNat ^^^ 2734686208:Nat):Int)=X at *;clear hX;generalize wOz s=N at *;by_cases ho:u % 2=1
 ·have q:(u % 2 == 1)=true:=xA ho
  have HE:=xN (HN.out.trans (if_pos ho));clear ho HN
  go_enter Tryz.func292,Tryz.ntmps292
  go_wp2_with (go_at_call 156;refine(yEz _ _).mono ?_;rintro e w' ⟨rfl,rfl⟩)
  go_ret
  exact⟨wL (by rw[HE.out]),rfl⟩
 ·have q:(u % 2 == 1)=false:=yZ ho
  have HE:=xN (HN.out.trans (if_neg ho));clear ho HN
  go_enter Tryz.func292,Tryz.ntmps292
  go_wp2_with (go_at_call 156;refine(yEz _ _).mono ?_;rintro e w' ⟨rfl,rfl⟩)
  go_ret
  exact⟨wL (by rw[HE.out]),rfl⟩
theorem c_noise (s:Int) (w:World):Calls Tryz.prog 293 #[.int .i64 s] w fun e w'=>e= .returned (.int .i64 (wOz s))∧w=w':=by
 obtain⟨u,hu,u0,u1,ha,h1,hx,hn⟩:=noise_facts s;have hs:s % 2=u % 2:=by omega
 have HN:=xN hn;clear hn ha h1;generalize hX:(((u / 2).toNat ^^^ 2734686208:Nat):Int)=X at *;clear hX;generalize wOz s=N at *;have HU:=xN hu;clear hu;by_cases ho:u % 2=1
 ·have q:decide (s % 2=1)=true:=decide_eq_true zM
  have HQ:=xN q;have HE:=xN (HN.out.trans (if_pos ho));clear ho HN hs q
  go_enter Tryz.func293,Tryz.ntmps293
  go_wp2_with (first|(go_at_call 295;refine(yBy _ _).mono ?_;rintro e w' ⟨rfl,rfl⟩;rw[HU.out])|(go_at_call 296;refine(c_isOdd _ _).mono ?_;rintro e w' ⟨rfl,rfl⟩;rw[HQ.out])|(go_at_call 242;refine(yTz _ _).mono ?_;rintro e w' ⟨rfl,rfl⟩))
  go_ret
  exact⟨wL (by rw[HE.out]),rfl⟩
 ·have q:decide (s % 2=1)=false:=decide_eq_false zM
  have HQ:=xN q;have HE:=xN (HN.out.trans (if_neg ho));clear ho HN hs q
  go_enter Tryz.func293,Tryz.ntmps293
  go_wp2_with (first|(go_at_call 295;refine(yBy _ _).mono ?_;rintro e w' ⟨rfl,rfl⟩;rw[HU.out])|(go_at_call 296;refine(c_isOdd _ _).mono ?_;rintro e w' ⟨rfl,rfl⟩;rw[HQ.out])|(go_at_call 242;refine(yTz _ _).mono ?_;rintro e w' ⟨rfl,rfl⟩))
  go_ret
  exact⟨wL (by rw[HE.out]),rfl⟩
theorem look_facts (t:List Int) (a:Int) (h0:0<t.length) (hn:t.length≤16): ∃ (u:Int) (j:Nat),a % 4294967296=u∧bits .and .i64 a 4294967295=u∧0≤u∧u<4294967296∧IntKind.i64.wrap ((t.length:Int) * u)=(t.length:Int) * u∧(t.length:Int) * u / 4294967296=(j:Int)∧j<t.length∧lookF t a=t.getD j 0:=by
 have hu0:0≤a % 4294967296:=by omega
 have hu1:a % 4294967296<4294967296:=by omega
 generalize hu:a % 4294967296=u at *;have h1:0≤(t.length:Int) * u:=Int.mul_nonneg zM hu0;have h2:(t.length:Int) * u≤(t.length:Int) * 4294967295:=Int.mul_le_mul_of_nonneg_left zM zM;have h3:(t.length:Int) * u / 4294967296<t.length:=by omega
 refine⟨u,((t.length:Int) * u / 4294967296).toNat,rfl,by rw[and_32,hu],hu0,hu1,IntWalk.i64_in _ zM,by omega,by omega,?_⟩;unfold lookF;rw[hu]
theorem c_l06Look (v:Value) (t:List Int) (a:Int) (w:World) (hr:RdI w v t) (h0:0<t.length) (hn:t.length≤16):Calls Tryz.prog 290 #[v,.int .i64 a] w fun e w'=>e= .returned (.int .i64 (lookF t a))∧w=w':=by
 obtain⟨u,j,hu,ha,u0,u1,hw,hj,hjl,hL⟩:=look_facts t a h0 hn;have HL:=xN hL;clear hL hu;obtain⟨A,cap,rfl,hln,hm,hx⟩:=hr.open_;have hgj:=gE hjl;obtain⟨b,off,rfl,hb,hc⟩:=hx j _ hgj;have HE:=xN (show t.getD j 0=t[j] by rw[List.getD_eq_getElem?_getD,hgj];rfl);generalize t[j]=y at *;clear hx hgj hr;generalize hM:(t.length:Int) * u=M at *;generalize lookF t a=N at *
 go_enter Tryz.func290,Tryz.ntmps290
 go_wp2;go_ret
 exact⟨wL (by rw[HL.out,HE.out]),rfl⟩
end
end Go.Proofs.YtoibekfhepnedaaGreat
