/- Contract: the order of a patch's nodes, by the program. Contracts: what is valid, by the reference: clips, tracks, names, mixers. Plain laws on decimal numbers: what is written is read back. No program is named here. Contract: the text of a mark. Contracts: nested data marked cell by cell. Contracts: nested data compared with itself. Contracts: marks of nested data, and marks that are still there. -/
import Derived.Test.YtdcofkabaigjpaaGreatQAeEdits
import Derived.Test.YtdcofkabaigjpaaGreatQAbEdits
import Derived.Test.YtdcofkabaigjpaaGreatQAdEdits
import Derived.Test.YtdcofkabaigjpaaGreatQAaEdits
import Derived.Lib.ItoaNum
import Derived.Lib.ItoaLen
import Derived.Lib.ParseIntB
import Derived.Lib.ParseIntBCases
import Derived.Lib.ParseIntBTie
import Derived.Deep.RegionHeld3
set_option linter.unusedVariables false
set_option linter.unusedSimpArgs false
set_option maxHeartbeats 2000000
set_option maxRecDepth 20000
namespace Go.Proofs.YtdcofkabaigjpaaGreat
section
open Go.RowKit
def Tk (w:World) (B g n:Nat) (f:Nat→Bool):Prop:=w.ownsRow B 4 1 (.slice (some ⟨g,0,none⟩) n n) n ((List.range n).map fun i=> .bool (f i))
theorem Tk.cell {w:World} {B g n:Nat} {f:Nat→Bool} (h:Tk w B g n f) {i:Nat} (hi:i<n):w.cell? ⟨g,i,none⟩=some (.bool (f i)):=by
 rw[World.ownsRow.cellAt h i zM,List.getElem?_map,List.getElem?_range hi];rfl
theorem Tk.free {w:World} {B g n:Nat} {f:Nat→Bool} (h:Tk w B g n f) (i:Nat):w.frozen? ⟨g,i,none⟩=false:=World.ownsRow.frozenAt h i
theorem Tk.lt {w:World} {B g n:Nat} {f:Nat→Bool} (h:Tk w B g n f):g<w.heap.size:=(World.ownsRow.lt h g rfl).2
theorem Tk.all {w w':World} {B g n:Nat} {f:Nat→Bool} (h:Tk w B g n f) (hb:Below w.heap.size w w'):Tk w' B g n f:=uM h hb
theorem Tk.grown {w w':World} {B g n:Nat} {f:Nat→Bool} {row:Option Nat} (h:Tk w B g n f) (hg:w.grownBy w' row) (hr:some g≠row):Tk w' B g n f:=
 yBz (fun b hb=>by injection hb with hb;subst hb;exact hg.block _ h.lt hr) h
theorem Tk.set_ {w:World} {B g n:Nat} {f:Nat→Bool} (h:Tk w B g n f) (k:Nat):Tk (w.setCell ⟨g,k,none⟩ (.bool true)) B g n (fun i=>if i=k then true else f i):=by
 have:=(World.ownsRow.stored h k (.bool true)).1;unfold Tk
 have e:((List.range n).map fun i=>Value.bool (f i)).set k (.bool true)=(List.range n).map fun i=>Value.bool (if i=k then true else f i):=by
  apply List.ext_getElem
  ·simp
  ·intro i h1 h2
   rw[List.getElem_set];by_cases e:k=i
   ·simp[e]
   ·have e': ¬ i=k:=fun h=>e h.symm
    simp[e,e']
 rw[e] at this;exact this
theorem Tk.zOy {w:World} {B g n:Nat} {f:Nat→Bool} (h:Tk w B g n f) (k:Nat):w.grownBy (w.setCell ⟨g,k,none⟩ (.bool true)) (some g):=(World.ownsRow.stored h k (.bool true)).2
theorem info_bool:(Tryz.prog.info? 4).map (fun i=>(i.zero,i.size,i.bytes))=some (some (.bool false),1,1):=by kernel_rfl
theorem Tk.made {w:World} {B g n:Nat} (h:w.ownsRow B 4 1 (.slice (some ⟨g,0,none⟩) n n) n (madeCells (Value.bool false).cells (n * 1)).toList):Tk w B g n fun _=>false:=by
 have e:(madeCells (Value.bool false).cells (n * 1)).toList=List.replicate n (Value.bool false):=by
  rw[Nat.mul_one];exact toList_madeCells_one _ n
 rw[e] at h;unfold Tk
 have e2:(List.range n).map (fun i=>Value.bool false)=List.replicate n (Value.bool false):=by
  apply List.ext_getElem
  ·simp
  ·intro i h1 h2;simp
 rw[e2];exact h
theorem readyB_of {nodes:List xR} {out:List Int} {k:Nat} {y:xR} (h:nodes[k]?=some y):yNz nodes out k=(!decide ((k:Int) ∈ out) && (zBz y).all fun f=>decide (f ∈ out)):=by
 unfold yNz;rw[h];simp
theorem all_take_snoc {l:List Int} {out:List Int} {t:Nat} {f:Int} (h:l[t]?=some f):((l.take (t+1)).all fun f=>decide (f ∈ out))=((l.take t).all (fun f=>decide (f ∈ out)) && decide (f ∈ out)):=by
 rw[vG h,List.all_append];simp
def lenV:Value→Nat
 | .slice _ n _=>n
 |_=>0
def fdN:Value→Nat
 | .bool true=>1
 |_=>0
theorem mark_snoc (l:List Int) (k:Nat):(fun i:Nat=>if i=k then true else decide ((i:Int) ∈ l))=fun i:Nat=>decide ((i:Int) ∈ l++ [(k:Int)]):=by
 funext i
 by_cases e:i=k
 ·subst e;simp
 ·have: ¬ (i:Int)=(k:Int):=by omega
  simp[e,this]
theorem waits_idx {y:xR} {n:Int} (h:Idx y.zO n):Idx (zBz y) n:=by
 unfold zBz
 split
 ·intro i x hx;simp at hx
 ·exact h
theorem OwI.all {E:TypeId} {w w':World} {B:Nat} {v:Value} {xs:List Int} (h:OwI E w B v xs) (hb:Below w.heap.size w w'):OwI E w' B v xs:=h.below hb fun b hb'=>(h.lt b hb').2
theorem c_order (x:xQ) (cs:List Value) (w:World) (hn:x.zF.length≤1048576) (hw:Each x.zF fun _ y=>Idx y.zO (x.zF.length:Int)) (h:T.rds w x.fs cs):Calls Tryz.prog 126 #[.agg cs.toArray] w fun e w'=> ∃ v,e= .returned v∧OwI 2 w' w.heap.size v (xY x.zF)∧Below w.heap.size w w':=by
 obtain⟨v1,v2,v3,rfl,h1,h2,h3⟩:=xQ.yT h;clear h;obtain⟨va1,vc1,rfl,vl1,vm1,R1,HX1⟩:=oG h1;clear h1;obtain⟨va2,vc2,rfl,vl2,vm2,R2,HX2⟩:=oG h2;clear h2;obtain⟨va3,vc3,rfl,vl3,vm3,R3,HX3⟩:=oI h3;clear h3;obtain⟨HB0,HK0⟩:=aK w 81 #[.int .i64 x.zU,(.slice va1 x.zY.length vc1),(.slice va2 x.zF.length vc2),(.slice va3 x.zX.length vc3)];have HWF:=xN hw;clear hw;obtain⟨i0,hi,hz0,hz1,hz2⟩:=info_parts info_bool
 go_enter Tryz.func126,Tryz.ntmps126
 go_wp2_with (at_make;refine wpList_make_full _ rfl _ _ _ rfl w.heap.size 4 i0 _ 1 Tryz.underlying195 hi hz0 hz1 .i64 .i64 _ _ x.zF.length rfl rfl rfl rfl (by rw[hz2];omega) (by unfold maxLen;omega) (by simp) ?_;intro w1 hown1 hg1)
 have e1:(w.alloc (.cells #[.int .i64 x.zU,(.slice va1 x.zY.length vc1),(.slice va2 x.zF.length vc2),(.slice va3 x.zX.length vc3)] 81)).heap.size=w.heap.size+1:=by simp
 rw[e1] at hown1;have HT1:=xN (Tk.made hown1);have hz1':w.heap.size+2≤w1.heap.size:=by have:=HT1.o.lt;omega
 have HB1:=xN (HB0.o.grown hg1 (by rw[e1];omega) (by simp));have HK1:=xN (HK0.o.grown hg1 (by simp));clear hown1 hg1 e1 hi hz0 hz1 hz2 hz1';have hz1':w.heap.size+2≤w1.heap.size:=by have:=HT1.o.lt;omega
 go_loopw [4,5] (fun v fd wr=> ∃ (m:Nat) (b:Bool),fd= .bool b∧OwI 2 wr (w.heap.size+2) v (xJ x.zF m)∧(xJ x.zF m).length=m∧Tk wr w.heap.size (w.heap.size+1) x.zF.length (fun i=>decide ((i:Int) ∈ (xJ x.zF m)))∧(b=false→vRz x.zF (xJ x.zF m)=none)∧Bk wr w.heap.size 81 #[.int .i64 x.zU,(.slice va1 x.zY.length vc1),(.slice va2 x.zF.length vc2),(.slice va3 x.zX.length vc3)]∧Below w.heap.size w wr) (fun v fd _=>x.zF.length - lenV v+fdN fd)
 case atStart=>
  refine⟨0,true,rfl,(vP w1).more hz1',rfl,?_,fun h=>absurd h (by simp),HK1.o.alloc _,HB1.o.alloc zM _⟩;have:=HT1.o.all (zR.alloc zJ (.cells #[] 2))
  simpa[xJ] using this
 case round=>
  obtain⟨m,b,rfl,ho,hlen,htk,hst,hbk,hbw⟩:=hrel;obtain⟨A,cp,rfl,hcl,hcm,_⟩:=ho.rd.open_;have HO:=xN ho;have HLEN:=xN hlen;have HTK:=xN htk;have HST:=xN hst;have HK:=xN hbk;have HB:=xN hbw;have hsz:=hbw.size;clear ho htk hst hbk hbw;have ka:=HK.o.cell;have la:=HK.o.lt;have hcap:=wUz (nodes:=x.zF) m
  cases b
  ·have HS2:=xN (HST.o rfl)
   have HE:=xN (uVz HS2.o HLEN.o);clear hlen hcap;go_wp2;go_ret
   exact⟨_,rfl,by rw[HE.o];exact HO.o.more zM,HB.o⟩
  rw[hlen] at hcap hcl ⊢;have HO':=xN (show OwI 2 wr (w.heap.size+2) (.slice A m cp) (xJ x.zF m) by have:=HO.o;rwa [hlen] at this);clear hlen;go_wp2;clear ka la;generalize wr=wo at *
  go_loopw [4,5,20] (fun v fd i wr=> ∃ k:Nat,k≤x.zF.length∧i= .int .i64 k∧v= .slice A m cp∧fd= .bool false∧(∀ j,j<k→yNz x.zF (xJ x.zF m) j=false)∧Below wo.heap.size wo wr) (fun _ _ i _=>x.zF.length - (intOf i).toNat)
  case atStart=>exact⟨0,Nat.zero_le _,rfl,rfl,rfl,fun j h=>absurd h zM,zR⟩
  case round=>
   obtain⟨k,hk,rfl,rfl,rfl,hno,hbw⟩:=hrel;have HNO:=xN hno;have HW:=xN hbw;have HB2:=xN (yO HB.o HB.o.size hbw);have HK2:=xN (HK.o.below hbw HK.o.lt);have HT2:=xN (HTK.o.all hbw);have HO2:=xN (HO'.o.all hbw);clear hno hbw;have ka:=HK2.o.cell;have la:=HK2.o.lt;have lt:=HT2.o.lt;by_cases hlt:k<x.zF.length
   rotate_left
   ·have hnone:=xN (nextF_none (nodes:=x.zF) (out:=(xJ x.zF m)) (fun j hj=>HNO.o j zM))
    go_wp2
    go_roundw
    case rel=>exact⟨m,false,rfl,HO2.o,HLEN.o,HT2.o,fun _=>hnone.o,HK2.o,HB2.o⟩
    case measure=>show x.zF.length - m+0<x.zF.length - m+1;omega
   have hgk:=gE hlt;obtain⟨b1,off,cs1,hA,hb1,hcs,hcell⟩:=HX2.o k x.zF[k] hgk;subst hA;generalize x.zF[k]=y at *;have HG:=xN hgk;have HWY:=xN (HWF.o k y hgk);clear hgk;obtain⟨u3,rfl,hRY3⟩:=xR.yT (show T.rds _ _ _ by simpa only[xR.t,T.rd] using hcs);obtain⟨d0,d1,d2,d3⟩:=oc4 HB2.o hb1 hcell;have RY3:=xN (T.yJ hRY3 HB2.o);clear hRY3;clear hcs hcell;have RY3i:=xN (T.xB.1 RY3.o);obtain⟨ua3,uc3,rfl,ul3,um3,ux3⟩:=RY3i.o.open_;clear ux3;have hq1:b1<wr.heap.size:=zW hb1 HB2.o.size;have ct:=HT2.o.cell hlt;have HRDY:=xN (readyB_of (out:=(xJ x.zF m)) HG.o);generalize hk0:decide ((k:Int) ∈ (xJ x.zF m))=kin at *;clear hk0;have HWY2:=xN (show Below wr.heap.size wr (wr.alloc (.cells #[.int .i64 y.zD,.int .i64 y.fA,.int .i64 y.fB,(.slice ua3 y.zO.length uc3)] 120)) from zR.alloc zJ _);go_wp2_with fail
   refine(c_waitsFor y _ _ (xR.rd_mk (T.yJ RY3.o HWY2.o))).mono ?_;rintro e w4 ⟨u,rfl,hu,hb4⟩;have HB4:=xN (yO HWY2.o HWY2.o.size hb4);clear hb4;have HB5:=xN (yO HB2.o HB2.o.size HB4.o);have HK5:=xN (HK2.o.below HB4.o HK2.o.lt);have HT5:=xN (HT2.o.all HB4.o);have HO5:=xN (HO2.o.all HB4.o);have HW5:=xN (yO HW.o HW.o.size HB4.o);have HU:=xN hu;obtain⟨ua,uc,rfl,hul,hum,hux⟩:=hu.open_;have HUX:=xN hux;clear hux ka la lt ct d0 d1 d2 d3 hq1 hu;go_wp2
   go_loopw [8,33] (fun r i ws=> ∃ t:Nat,t≤(zBz y).length∧i= .int .i64 t∧r= .bool (!kin && ((zBz y).take t).all fun f=>decide (f ∈ (xJ x.zF m)))∧Below w4.heap.size w4 ws) (fun _ i _=>(zBz y).length - (intOf i).toNat)
   case atStart=>exact⟨0,Nat.zero_le _,rfl,by simp,zR⟩
   case round=>
    obtain⟨t,ht,rfl,rfl,hbs⟩:=hrel;have HW6:=xN hbs;have HB6:=xN (yO HB5.o HB5.o.size hbs);have HK6:=xN (HK5.o.below hbs HK5.o.lt);have HT6:=xN (HT5.o.all hbs);have HO6:=xN (HO5.o.all hbs);clear hbs;have ka:=HK6.o.cell;have la:=HK6.o.lt;have lt:=HT6.o.lt;generalize hgr:(!kin && ((zBz y).take t).all fun f=>decide (f ∈ (xJ x.zF m)))=r at *;have HR:=xN hgr;clear hgr;by_cases hltt:t<(zBz y).length
    ·have hgt:=gE hltt
     obtain⟨b3,off3,hA,hb3,hcf⟩:=HUX.o t (zBz y)[t] hgt;subst hA;generalize (zBz y)[t]=fv at *;have HF:=xN hgt;clear hgt;have hfr:=(waits_idx HWY.o) t fv HF.o;obtain⟨fn,rfl⟩: ∃ fn:Nat,fv=(fn:Int):=⟨fv.toNat,by omega⟩;have hfn:fn<x.zF.length:=by omega
     have cf:=(HW6.o.cell hb3).trans hcf;have hq3:b3<wr.heap.size:=zW hb3 HW6.o.size;have ct:=HT6.o.cell hfn;have HSN:=xN (all_take_snoc (out:=(xJ x.zF m)) HF.o);generalize hf0:decide ((fn:Int) ∈ (xJ x.zF m))=fin at *;clear hf0 hfr;have n1:((fn:Int)<(x.zF.length:Int)):=by omega
     cases r
     ·go_wp2
      go_roundw
      case rel=>exact⟨t+1,by omega,by go_num,by rw[HSN.o,←Bool.and_assoc,HR.o];rfl,HW6.o⟩
      case measure=>simp[intOf];omega
     ·go_wp2
      go_roundw
      case rel=>exact⟨t+1,by omega,by go_num,by rw[HSN.o,←Bool.and_assoc,HR.o];rfl,HW6.o⟩
      case measure=>simp[intOf];omega
    have ht2:t=(zBz y).length:=by omega
    have HRD:=xN (show yNz x.zF (xJ x.zF m) k=r by rw[HRDY.o,←HR.o,ht2,List.take_length]);clear ht2
    cases r
    ·go_wp2
     go_roundw
     case rel=>exact⟨k+1,by omega,by go_num,rfl,rfl,fun j hj=>by
    by_cases e:j=k
    ·subst e;exact HRD.o
    ·exact HNO.o j zM,yO HW5.o HW5.o.size HW6.o⟩
     case measure=>simp[intOf];omega
    have HNX:=xN (nextF_some hlt HRD.o HNO.o);have fr:=HT6.o.free k;have ck:=HT6.o.cell hlt;have n2:((k:Int)<(x.zF.length:Int)):=by omega
    have HT7:=xN (show Tk (wr.setCell ⟨w.heap.size+1,k,none⟩ (.bool true)) w.heap.size (w.heap.size+1) x.zF.length (fun i=>decide ((i:Int) ∈ (xJ x.zF m)++ [(k:Int)])) by have:=HT6.o.set_ k;rw[mark_snoc] at this;exact this);have HG7:=xN (HT6.o.zOy k);have HO7:=xN (HO6.o.far (p:=⟨w.heap.size+1,k,none⟩) (fun b hb=>by have:=(HO6.o.lt b hb).1;simp only;omega) (.bool true));have HK7:=xN (HK6.o.far (p:=⟨w.heap.size+1,k,none⟩) (by simp only;omega) (.bool true));have HB7:=xN (HB6.o.grown HG7.o HB6.o.size (fun j hj=>by injection hj with hj;omega));have hs7:=HB7.o.size;have hz7:=HG7.o.size;have hbb:w.heap.size+2≤(wr.setCell ⟨w.heap.size+1,k,none⟩ (.bool true)).heap.size:=by omega
    have hll:(xJ x.zF m).length+1≤17592186044416:=by rw[HLEN.o];omega
    have hsz7:(wr.setCell ⟨w.heap.size+1,k,none⟩ (.bool true)).heap.size=wr.heap.size:=by simp[World.setCell]
    go_wp2_with (at_builtin;refine yGz (n:=(k:Int)) rfl _ _ rfl rfl HO7.o (by show Value.slice (some ⟨wr.heap.size,0,none⟩) 1 1=_;rw[hsz7]) hll hbb ?_;intro v8 w8 ho8 hg8 hv8;have HO8:=xN ho8;have HG8:=xN hg8;clear ho8 hg8 hv8)
    have HB8:=xN (HB7.o.grown HG8.o zM (fun j hj=>by have:=(HO7.o.lt j hj).1;omega));have HT8:=xN (HT7.o.grown HG8.o (fun e=>by have:=(HO7.o.lt _ e.symm).1;omega));have HK8:=xN (HK7.o.grown HG8.o (fun e=>by have:=(HO7.o.lt _ e.symm).1;omega));have HSN:=xN (vLz HNX.o);have HL8:=xN (show (xJ x.zF (m+1)).length=m+1 by rw[HSN.o,List.length_append,HLEN.o];rfl);have hc8:=wUz (nodes:=x.zF) (m+1);rw[HL8.o] at hc8;obtain⟨A8,c8,rfl,_,_,_⟩:=HO8.o.rd.open_;have HO9:=xN (show OwI 2 w8 (w.heap.size+2) (.slice A8 (m+1) c8) (xJ x.zF (m+1)) by have:=HO8.o;rw[HSN.o];simpa[HLEN.o] using this);rw[show (xJ x.zF m++ [(k:Int)]).length=m+1 by rw[←HSN.o];exact HL8.o];clear HO8 fr ck;go_wp2
    go_roundw
    case rel=>
     refine⟨m+1,true,rfl,HO9.o,HL8.o,?_,fun h=>absurd h (by simp),HK8.o,HB8.o⟩;have:=HT8.o;rw[HSN.o];exact this
    case measure=>show x.zF.length - (m+1)+1<x.zF.length - m+1;omega
end
section
open Go.RowKit
theorem T.at_sub {w:World} {fs:List T} {b o:Nat} (pre sub post:List Value) (hb:b<w.heap.size) (hc: ∀ j u,(pre++(sub++post))[j]?=some u→w.cell? ⟨b,o+j,none⟩=some u) (h:T.rds w fs sub):T.at w fs b (o+pre.length):=
 ⟨hb,sub,h,fun j u hj=>by
  have hl:=(List.getElem?_eq_some_iff.1 hj).1;have:=hc (pre.length+j) u (by rw[List.getElem?_append_right zM,Nat.add_sub_cancel_left,List.getElem?_append_left hl];exact hj)
  rwa [←Nat.add_assoc] at this⟩
theorem wWz (x:xU) (b o:Nat) (w:World) (h:T.at w x.fs b o):Calls Tryz.prog 83 #[.pointer (some ⟨b,o,none⟩)] w fun e w'=>e= .returned (.bool (tf (zLz x)))∧Below w.heap.size w w':=by
 have HAT:=xN h;obtain⟨hlt0,cs,hr,hc⟩:=h;obtain rfl:=xU.yT hr;clear hr;have HL:=xN hlt0;have HCC:=xN hc;have HB0:=xN (Below.refl w.heap.size w);clear hlt0 hc;obtain⟨p0,p1,p2,p3,p4⟩:=pc5 HB0.o HL.o HCC.o;have lb:b<w.heap.size:=zW HL.o HB0.o.size
 go_enter Tryz.func83,Tryz.ntmps83
 by_cases q1:inB x.zV 0 5=true
 rotate_left
 ·have q1':inB x.zV 0 5=false:=(by simpa using q1)
  go_wp2_with (first|(go_at_call 67;refine(wJ _ _ _ _).mono ?_;rintro e w' ⟨rfl,rfl⟩)|(go_at_call 84;refine(wL _ _).mono ?_;rintro e w' ⟨rfl,rfl⟩))
  go_ret
  exact⟨yN (xH fun h=>q1 h.source).symm,HB0.o⟩
 skip
 by_cases q2:inB x.zB 1 4000=true
 rotate_left
 ·have q2':inB x.zB 1 4000=false:=(by simpa using q2)
  go_wp2_with (first|(go_at_call 67;refine(wJ _ _ _ _).mono ?_;rintro e w' ⟨rfl,rfl⟩)|(go_at_call 84;refine(wL _ _).mono ?_;rintro e w' ⟨rfl,rfl⟩))
  go_ret
  exact⟨yN (xH fun h=>q2 h.length).symm,HB0.o⟩
 have i2:=xK.1 q2;by_cases q3:Smp x.yB
 rotate_left
 ·have q3':decide (Smp x.yB)=false:=decide_eq_false q3;have Q3:=xN q3;clear q3
  go_wp2_with (first|(go_at_call 67;refine(wJ _ _ _ _).mono ?_;rintro e w' ⟨rfl,rfl⟩)|(go_at_call 84;refine(wL _ _).mono ?_;rintro e w' ⟨rfl,rfl⟩))
  go_ret
  exact⟨yN (xH fun h=>Q3.o h.gain).symm,HB0.o⟩
 have q3':decide (Smp x.yB)=true:=decide_eq_true q3;have Q3:=xN q3;clear q3;by_cases q4:inB x.zO 0 (4000 - x.zB)=true
 rotate_left
 ·have q4':inB x.zO 0 (4000 - x.zB)=false:=(by simpa using q4)
  go_wp2_with (first|(go_at_call 67;refine(wJ _ _ _ _).mono ?_;rintro e w' ⟨rfl,rfl⟩)|(go_at_call 84;refine(wL _ _).mono ?_;rintro e w' ⟨rfl,rfl⟩))
  have g0:=yK p0;have g1:=yK p1;have g2:=yK p2;have g3:=yK p3;have g4:=yK p4;refine rB ?_
  repeat(first|go_big_quiet_skip|(go_big_quiet_want;go_big_quiet_op;first|go_big_quiet_on|(apply Exists.intro;refine⟨fun _=>?_,?_⟩;(· ((go_at_call 67;exact Calls.yP ((wJ _ _ _ _).mono (fun e w' h=>by(first|rw[q4'] at h|skip);exact h)))));go_big_quiet_on)))
  refine wpQuiet_nil ?_;rintro w9 ⟨uu,rfl⟩;have hb9:=yM w uu;generalize bel w uu=w9 at *;have HB9:=xN (yO HB0.o HB0.o.size hb9);clear g0 g1 g2 g3 g4;go_wp2;go_ret
  exact⟨yN (xH fun h=>q4 h.from_).symm,HB9.o⟩
 by_cases q5:inB x.yE 0 (4000 - x.zB)=true
 rotate_left
 ·have q5':inB x.yE 0 (4000 - x.zB)=false:=(by simpa using q5)
  go_wp2_with (first|(go_at_call 67;refine(wJ _ _ _ _).mono ?_;rintro e w' ⟨rfl,rfl⟩)|(go_at_call 84;refine(wL _ _).mono ?_;rintro e w' ⟨rfl,rfl⟩))
  have g0:=yK p0;have g1:=yK p1;have g2:=yK p2;have g3:=yK p3;have g4:=yK p4;refine rB ?_
  repeat(first|go_big_quiet_skip|(go_big_quiet_want;go_big_quiet_op;first|go_big_quiet_on|(apply Exists.intro;refine⟨fun _=>?_,?_⟩;(· ((go_at_call 67;exact Calls.yP ((wJ _ _ _ _).mono (fun e w' h=>by(first|rw[q4] at h|rw[q5'] at h|skip);exact h)))));go_big_quiet_on)))
  refine wpQuiet_nil ?_;rintro w9 ⟨uu,rfl⟩;have hb9:=yM w uu;generalize bel w uu=w9 at *;have HB9:=xN (yO HB0.o HB0.o.size hb9);clear g0 g1 g2 g3 g4;go_wp2;go_ret
  exact⟨yN (xH fun h=>q5 h.at_).symm,HB9.o⟩
 go_wp2_with (first|(go_at_call 67;refine(wJ _ _ _ _).mono ?_;rintro e w' ⟨rfl,rfl⟩)|(go_at_call 84;refine(wL _ _).mono ?_;rintro e w' ⟨rfl,rfl⟩))
 have g0:=yK p0;have g1:=yK p1;have g2:=yK p2;have g3:=yK p3;have g4:=yK p4;refine rB ?_
 repeat(first|go_big_quiet_skip|(go_big_quiet_want;go_big_quiet_op;first|go_big_quiet_on|(apply Exists.intro;refine⟨fun _=>?_,?_⟩;(· ((go_at_call 67;exact Calls.yP ((wJ _ _ _ _).mono (fun e w' h=>by(first|rw[q4] at h|rw[q5] at h|skip);exact h)))));go_big_quiet_on)))
 refine wpQuiet_nil ?_;rintro w9 ⟨uu,rfl⟩;have hb9:=yM w uu;generalize bel w uu=w9 at *;have HB9:=xN (yO HB0.o HB0.o.size hb9);clear g0 g1 g2 g3 g4;go_wp2;go_ret
 exact⟨yN (xI ⟨q1,q2,q4,q5,Q3.o⟩).symm,HB9.o⟩
theorem c_l23Ok (x:xS) (b o:Nat) (w:World) (h:T.at w x.fs b o):Calls Tryz.prog 134 #[.pointer (some ⟨b,o,none⟩)] w fun e w'=>e= .returned (.bool (tf (zAz x)))∧Below w.heap.size w w':=by
 have HAT:=xN h;obtain⟨hlt0,cs,hr,hc⟩:=h;obtain⟨v0,rfl,h0⟩:=xS.yT hr;clear hr;obtain⟨va0,vc0,rfl,vl0,vm0,R0,HX0⟩:=oG h0;clear h0;have HL:=xN hlt0;have HCC:=xN hc;have HB0:=xN (Below.refl w.heap.size w);clear hlt0 hc;have p0:=pc1 HB0.o HL.o HCC.o;have lb:b<w.heap.size:=zW HL.o HB0.o.size
 go_enter Tryz.func134,Tryz.ntmps134
 go_wp2;clear p0 lb
 go_loopw [3] (fun i wr=> ∃ k:Nat,k≤x.zS.length∧i= .int .i64 k∧vU x.zS (fun i c=>zLz c∧ ∀ p,0<i→x.zS[i - 1]?=some p→p.yE≤c.yE) k∧Below w.heap.size w wr) (fun i _=>x.zS.length - (intOf i).toNat)
 case atStart=>exact⟨0,Nat.zero_le _,rfl,vU.zero,zR⟩
 case round=>
  obtain⟨k,hk,rfl,hs,hbw⟩:=hrel;have HS:=xN hs;have HW:=xN hbw;have HB:=xN (yO HB0.o HB0.o.size hbw);clear hs hbw;have p0:=pc1 HB.o HL.o HCC.o;have lb:b<wr.heap.size:=zW HL.o HB.o.size;by_cases hlt:k<x.zS.length
  rotate_left
  ·have hall:=xN (HS.o.all zM);clear HS
   by_cases h12:x.zS.length≤12
   ·go_wp2
    go_ret
    exact⟨yN (by rw[xI ⟨hall.o,h12⟩];exact decide_eq_true zM),HB.o⟩
   ·go_wp2
    go_ret
    exact⟨yN (by rw[xH fun h=>h12 h.few];exact decide_eq_false zM),HB.o⟩
  have hgk:=gE hlt;obtain⟨b1,off,csy,hA,hb1,hcs,hcell⟩:=HX0.o k x.zS[k] hgk;subst hA;generalize x.zS[k]=y at *;have HG:=xN hgk;clear hgk;have HAy:=xN (T.at_elem (o:=off+k * 5) hb1 (show T.rds w y.fs csy by simpa only[xU.t,T.rd] using hcs) hcell zM);clear hcs hcell;have n1:((k:Int)<(x.zS.length:Int)):=by omega
  by_cases hk0:k=0
  ·have g0':decide (0<k)=false:=decide_eq_false zM
   have K0:=xN hk0;clear hk0;by_cases q1:zLz y
   ·have a1:=xI q1;have Q1:=xN q1;clear q1
    go_wp2;have g0:=yK p0;refine rB ?_
    repeat(first|go_big_quiet_skip|(go_big_quiet_want;go_big_quiet_op;first|go_big_quiet_on|(apply Exists.intro;refine⟨fun _=>?_,?_⟩;(· (go_at_call 83;exact Calls.yQ ((wWz y _ _ _ (T.at_below HAy.o (yO HB.o HB.o.size (yM wr _)))).mono (fun e w' h=>by rw[a1] at h;exact h))));go_big_quiet_on)))
    refine wpQuiet_nil ?_;rintro w9 ⟨uu,rfl⟩;have hb9:=yM wr uu;generalize bel wr uu=w9 at *;have HB9:=xN (yO HB.o HB.o.size hb9);clear g0;have HW9:=xN (yO HW.o HW.o.size hb9);clear hb9;go_wp2
    go_roundw
    case rel=>exact⟨k+1,by omega,by go_num,HS.o.step HG.o ⟨Q1.o,fun p h=>by have:=K0.o;omega⟩,HW9.o⟩
    case measure=>simp[intOf];omega
   ·have a1:=xH q1;have Q1:=xN q1;clear q1
    go_wp2;have g0:=yK p0;refine rB ?_
    repeat(first|go_big_quiet_skip|(go_big_quiet_want;go_big_quiet_op;first|go_big_quiet_on|(apply Exists.intro;refine⟨fun _=>?_,?_⟩;(· (go_at_call 83;exact Calls.yQ ((wWz y _ _ _ (T.at_below HAy.o (yO HB.o HB.o.size (yM wr _)))).mono (fun e w' h=>by rw[a1] at h;exact h))));go_big_quiet_on)))
    refine wpQuiet_nil ?_;rintro w9 ⟨uu,rfl⟩;have hb9:=yM wr uu;generalize bel wr uu=w9 at *;have HB9:=xN (yO HB.o HB.o.size hb9);clear g0;have HW9:=xN (yO HW.o HW.o.size hb9);clear hb9;go_wp2;go_ret
    exact⟨yN (xH fun h=>Q1.o (h.clips k y HG.o).1).symm,HB9.o⟩
  obtain⟨j,rfl⟩: ∃ j,k=j+1:=⟨k - 1,by omega⟩;clear hk0;have hltj:j<x.zS.length:=by omega
  have hgk:=gE hltj;obtain⟨b2,off2,csz,hA,hb2,hcs,hcell⟩:=HX0.o j x.zS[j] hgk;obtain⟨rfl,rfl⟩:b1=b2∧off=off2:=by injection hA with hA;injection hA with e1 e2;exact⟨e1,e2⟩
  clear hA;generalize x.zS[j]=z at *;have HJ:=xN hgk;clear hgk;have HAz:=xN (T.at_elem (o:=off+j * 5) hb2 (show T.rds w z.fs csz by simpa only[xU.t,T.rd] using hcs) hcell zM);clear hcs hcell;obtain⟨_,csy',hry,hcy⟩:=HAy.o;obtain rfl:=xU.yT hry;obtain⟨-,-,-,cy3⟩:=pc4 HB.o hb1 hcy;obtain⟨_,csz',hrz,hcz⟩:=HAz.o;obtain rfl:=xU.yT hrz;obtain⟨-,-,-,cz3⟩:=pc4 HB.o hb1 hcz;clear hry hcy hrz hcz;have e1:IntKind.i64.wrap ((j:Int)+1 - 1)=(j:Int):=by rw[IntWalk.i64_in _ zM];omega
  have e2:IntKind.i64.wrap (j:Int)=(j:Int):=IntWalk.i64_in _ zM;have n0:(0:Int)≤(j:Int):=by omega
  have n2:((j:Int)<(x.zS.length:Int)):=by omega
  have n3:((j:Int)+1<(x.zS.length:Int)):=by omega
  have n4:(0:Int)≤(j:Int)+1:=by omega
  by_cases q1:zLz y
  rotate_left
  ·have a1:=xH q1;have Q1:=xN q1;clear q1
   go_wp2;have g0:=yK p0;have g1:=yK cy3;have g2:=yK cz3;refine rB ?_
   repeat(first|go_big_quiet_skip|(go_big_quiet_want;go_big_quiet_op;first|go_big_quiet_on|(apply Exists.intro;refine⟨fun _=>?_,?_⟩;(· (go_at_call 83;exact Calls.yQ ((wWz y _ _ _ (T.at_below HAy.o (yO HB.o HB.o.size (yM wr _)))).mono (fun e w' h=>by rw[a1] at h;exact h))));go_big_quiet_on)))
   refine wpQuiet_nil ?_;rintro w9 ⟨uu,rfl⟩;have hb9:=yM wr uu;generalize bel wr uu=w9 at *;have HB9:=xN (yO HB.o HB.o.size hb9);clear g0 g1 g2;have HW9:=xN (yO HW.o HW.o.size hb9);clear hb9;go_wp2;go_ret
   exact⟨yN (xH fun h=>Q1.o (h.clips (j+1) y HG.o).1).symm,HB9.o⟩
  have a1:=xI q1;have Q1:=xN q1;clear q1;by_cases q2:y.yE<z.yE
  ·have q2':decide (y.yE<z.yE)=true:=decide_eq_true q2;have Q2:=xN q2
   go_wp2;have g0:=yK p0;have g1:=yK cy3;have g2:=yK cz3;refine rB ?_
   repeat(first|go_big_quiet_skip|(go_big_quiet_want;go_big_quiet_op;first|go_big_quiet_on|(apply Exists.intro;refine⟨fun _=>?_,?_⟩;(· (go_at_call 83;exact Calls.yQ ((wWz y _ _ _ (T.at_below HAy.o (yO HB.o HB.o.size (yM wr _)))).mono (fun e w' h=>by rw[a1] at h;exact h))));go_big_quiet_on)))
   refine wpQuiet_nil ?_;rintro w9 ⟨uu,rfl⟩;have hb9:=yM wr uu;generalize bel wr uu=w9 at *;have HB9:=xN (yO HB.o HB.o.size hb9);clear g0 g1 g2;have HW9:=xN (yO HW.o HW.o.size hb9);clear hb9;go_wp2;go_ret
   exact⟨yN (xH fun h=>by have:=(h.clips (j+1) y HG.o).2 z zM HJ.o;have:=Q2.o;omega).symm,HB9.o⟩
  have q2':decide (y.yE<z.yE)=false:=decide_eq_false q2;go_wp2;have g0:=yK p0;have g1:=yK cy3;have g2:=yK cz3;refine rB ?_
  repeat(first|go_big_quiet_skip|(go_big_quiet_want;go_big_quiet_op;first|go_big_quiet_on|(apply Exists.intro;refine⟨fun _=>?_,?_⟩;(· (go_at_call 83;exact Calls.yQ ((wWz y _ _ _ (T.at_below HAy.o (yO HB.o HB.o.size (yM wr _)))).mono (fun e w' h=>by rw[a1] at h;exact h))));go_big_quiet_on)))
  refine wpQuiet_nil ?_;rintro w9 ⟨uu,rfl⟩;have hb9:=yM wr uu;generalize bel wr uu=w9 at *;have HB9:=xN (yO HB.o HB.o.size hb9);clear g0 g1 g2;have HW9:=xN (yO HW.o HW.o.size hb9);clear hb9;go_wp2
  go_roundw
  case rel=>exact⟨j+1+1,by omega,by go_num,HS.o.step HG.o ⟨Q1.o,fun p _ hp=>by rw[Nat.add_sub_cancel,HJ.o] at hp;injection hp with hp;subst hp;omega⟩,HW9.o⟩
  case measure=>simp[intOf];omega
theorem c_sValidTrack (x:xS) (cs:List Value) (w:World) (h:T.rds w x.fs cs):Calls Tryz.prog 105 #[.agg cs.toArray] w fun e w'=>e= .returned (.bool (tf (zAz x)))∧Below w.heap.size w w':=by
 obtain⟨v0,rfl,h0⟩:=xS.yT h;clear h;obtain⟨va0,vc0,rfl,vl0,vm0,R0,HX0⟩:=oG h0;clear h0;obtain⟨HB0,HK0⟩:=aK w 69 #[(.slice va0 x.zS.length vc0)]
 go_enter Tryz.func105,Tryz.ntmps105
 go_wp2_with fail
 refine(c_l23Ok x _ _ _ (T.at_bk HK0.o (xS.rd_mk (T.yJ R0.o HB0.o)))).mono ?_;rintro e w1 ⟨rfl,hd⟩;have H1:=xN (yO HB0.o HB0.o.size hd);clear hd;go_wp2;go_ret
 exact⟨rfl,H1.o⟩
theorem yIy (x:xS) (b o:Nat) (n:Int) (w:World) (n0:0≤n) (n1:n≤1048576) (h:T.at w x.fs b o):Calls Tryz.prog 70 #[.pointer (some ⟨b,o,none⟩),.int .i64 n] w fun e w'=>e= .returned (.bool (tf (zAz x∧Each x.zS fun _ c=>c.zV<n)))∧Below w.heap.size w w':=by
 have HAT:=xN h;obtain⟨hlt0,cs,hr,hc⟩:=h;obtain⟨v0,rfl,h0⟩:=xS.yT hr;clear hr;obtain⟨va0,vc0,rfl,vl0,vm0,R0,HX0⟩:=oG h0;clear h0;have HL:=xN hlt0;have HCC:=xN hc;have HB0:=xN (Below.refl w.heap.size w);clear hlt0 hc;have p0:=pc1 HB0.o HL.o HCC.o;have lb:b<w.heap.size:=zW HL.o HB0.o.size
 go_enter Tryz.func70,Tryz.ntmps70
 go_wp2;clear p0 lb
 go_loopw [5] (fun i wr=> ∃ k:Nat,k≤x.zS.length∧i= .int .i64 k∧vU x.zS (fun _ c=>inB c.zV 0 (n - 1)=true) k∧Below w.heap.size w wr) (fun i _=>x.zS.length - (intOf i).toNat)
 case atStart=>exact⟨0,Nat.zero_le _,rfl,vU.zero,zR⟩
 case round=>
  obtain⟨k,hk,rfl,hs,hbw⟩:=hrel;have HS:=xN hs;have HW:=xN hbw;have HB:=xN (yO HB0.o HB0.o.size hbw);clear hs hbw;have p0:=pc1 HB.o HL.o HCC.o;have lb:b<wr.heap.size:=zW HL.o HB.o.size;by_cases hlt:k<x.zS.length
  rotate_left
  ·have hall:=xN (HS.o.all zM);clear HS
   go_wp2_with fail
   refine(c_sValidTrack x _ _ (xS.rd_mk (T.yJ R0.o HB.o))).mono ?_;rintro e w2 ⟨rfl,hb2⟩;have H2:=xN (yO HB.o HB.o.size hb2);clear hb2;go_wp2;go_ret
   exact⟨yN (tf_iff ⟨fun h=>⟨h,fun i c hc=>by have:=xK.1 (hall.o i c hc);omega⟩,fun h=>h.1⟩),H2.o⟩
  have hgk:=gE hlt;obtain⟨b1,off,csy,hA,hb1,hcs,hcell⟩:=HX0.o k x.zS[k] hgk;subst hA;generalize x.zS[k]=y at *;have HG:=xN hgk;clear hgk;have HAy:=xN (T.at_elem (o:=off+k * 5) hb1 (show T.rds w y.fs csy by simpa only[xU.t,T.rd] using hcs) hcell zM);clear hcs hcell;obtain⟨_,csy',hry,hcy⟩:=HAy.o;obtain rfl:=xU.yT hry;have cy0:=pc1 HB.o hb1 hcy;have hq1:b1<wr.heap.size:=zW hb1 HB.o.size;clear hry hcy;by_cases q1:inB y.zV 0 (n - 1)=true
  rotate_left
  ·have q1':inB y.zV 0 (n - 1)=false:=(by simpa using q1)
   go_wp2_with (go_at_call 67;refine(wJ _ _ _ _).mono ?_;rintro e w' ⟨rfl,rfl⟩)
   go_ret
   exact⟨yN (xH fun h=>by have h1:=(h.1.clips k y HG.o).1.source;have h2:=h.2 k y HG.o;exact q1 (xK.2 ⟨(xK.1 h1).1,by omega⟩)).symm,HB.o⟩
  go_wp2_with (go_at_call 67;refine(wJ _ _ _ _).mono ?_;rintro e w' ⟨rfl,rfl⟩)
  go_roundw
  case rel=>exact⟨k+1,by omega,by go_num,HS.o.step HG.o q1,HW.o⟩
  case measure=>simp[intOf];omega
theorem wFz (x:Nat) (w:World):Calls Tryz.prog 160 #[.int .u8 (x:Int)] w fun e w'=>e= .returned (.bool (decide (97≤x∧x≤122)))∧w=w':=by
 by_cases h:97≤x
 all_goals
  go_enter Tryz.func160,Tryz.ntmps160
  go_wp2;go_ret
  exact⟨yN (by by_cases h2:x≤122<;>first|rfl|(simp[h,h2];done)|(simp[h,h2];omega)),rfl⟩
theorem wGz (x:Nat) (w:World):Calls Tryz.prog 161 #[.int .u8 (x:Int)] w fun e w'=>e= .returned (.bool (decide (48≤x∧x≤57)))∧w=w':=by
 by_cases h:48≤x
 all_goals
  go_enter Tryz.func161,Tryz.ntmps161
  go_wp2;go_ret
  exact⟨yN (by by_cases h2:x≤57<;>first|rfl|(simp[h,h2];done)|(simp[h,h2];omega)),rfl⟩
theorem ne_of_size {s:ByteArray} (h:1≤s.size):s.toList.isEmpty=false:=by
 rw[toList_eq];have hl:s.data.toList.length=s.size:=by rw[Array.length_toList];rfl
 generalize s.data.toList=l at *
 cases l with
 |nil=>simp at hl;omega
 |cons a t=>rfl
theorem xYz (s:ByteArray) (w:World):Calls Tryz.prog 133 #[.string s] w fun e w'=>e= .returned (.bool (tf (NameOk s)))∧w=w':=by
 by_cases h1:1≤s.size
 rotate_left
 ·have hs:s=ByteArray.empty:=by apply ByteArray.ext;apply Array.toList_inj.1;apply List.eq_nil_of_length_eq_zero;rw[Array.length_toList];have:s.data.size=s.size:=rfl;omega
  subst hs
  go_enter Tryz.func133,Tryz.ntmps133
  go_wp2;go_ret
  exact⟨yN (xH fun h=>h1 h.some_).symm,rfl⟩
 have hne:=ne_of_size h1;have HNE:=xN hne;by_cases h2:s.size≤10
 rotate_left
 ·go_enter Tryz.func133,Tryz.ntmps133
  go_wp2;go_ret
  exact⟨yN (xH fun h=>h2 h.few).symm,rfl⟩
 have hg0:=bA_get (s:=s) (n:=0) zM;have hb0:=bA_lt s 0;by_cases h3:97≤bA s 0∧bA s 0≤122
 rotate_left
 ·have d0:decide (97≤bA s 0∧bA s 0≤122)=false:=decide_eq_false h3
  have H3:=xN h3;clear h3
  go_enter Tryz.func133,Tryz.ntmps133
  go_wp2_with (first|(go_at_call 160;refine(wFz _ _).mono ?_;rintro e w' ⟨rfl,rfl⟩)|(go_at_call 161;refine(wGz _ _).mono ?_;rintro e w' ⟨rfl,rfl⟩))
  go_ret
  exact⟨yN (xH fun h=>by rcases h.each 0 zM with h|h<;>(simp only[uBz,uCz] at h;have:=H3.o;omega)).symm,rfl⟩
 have d0:decide (97≤bA s 0∧bA s 0≤122)=true:=decide_eq_true h3;have H3:=xN h3;clear h3
 go_enter Tryz.func133,Tryz.ntmps133
 go_wp2_with (first|(go_at_call 160;refine(wFz _ _).mono ?_;rintro e w' ⟨rfl,rfl⟩)|(go_at_call 161;refine(wGz _ _).mono ?_;rintro e w' ⟨rfl,rfl⟩))
 go_loop [3] (fun i=> ∃ k:Nat,k≤s.size∧i= .int .i64 k∧ ∀ i,i<k→uBz (bA s i)∨uCz (bA s i)) (fun i=>s.size - (intOf i).toNat)
 case atStart=>exact⟨0,Nat.zero_le _,rfl,fun i h=>absurd h zM⟩
 case round=>
  obtain⟨k,hk,rfl,hs⟩:=hrel;have HS:=xN hs;clear hs hg0 hb0 d0;by_cases hlt:k<s.size
  ·have hb:=bA_lt s k
   have hg:=bA_get hlt;generalize hy:bA s k=y at *;have HY:=xN hy;clear hy;by_cases a1:97≤y∧y≤122
   ·have d1:decide (97≤y∧y≤122)=true:=decide_eq_true a1
    have A1:=xN a1;clear a1;go_wp2_with (first|(go_at_call 160;refine(wFz _ _).mono ?_;rintro e w' ⟨rfl,rfl⟩)|(go_at_call 161;refine(wGz _ _).mono ?_;rintro e w' ⟨rfl,rfl⟩))
    go_round
    case rel=>exact⟨k+1,by omega,by go_num,fun i hi=>by
     by_cases e:i=k
     ·subst e;rw[HY.o];exact .inl A1.o
     ·exact HS.o i zM⟩
    case measure=>simp[intOf];omega
   ·have d1:decide (97≤y∧y≤122)=false:=decide_eq_false a1
    have A1:=xN a1;clear a1;by_cases a2:48≤y∧y≤57
    ·have d2:decide (48≤y∧y≤57)=true:=decide_eq_true a2
     have A2:=xN a2;clear a2;go_wp2_with (first|(go_at_call 160;refine(wFz _ _).mono ?_;rintro e w' ⟨rfl,rfl⟩)|(go_at_call 161;refine(wGz _ _).mono ?_;rintro e w' ⟨rfl,rfl⟩))
     go_round
     case rel=>exact⟨k+1,by omega,by go_num,fun i hi=>by
      by_cases e:i=k
      ·subst e;rw[HY.o];exact .inr A2.o
      ·exact HS.o i zM⟩
     case measure=>simp[intOf];omega
    ·have d2:decide (48≤y∧y≤57)=false:=decide_eq_false a2
     have A2:=xN a2;clear a2;go_wp2_with (first|(go_at_call 160;refine(wFz _ _).mono ?_;rintro e w' ⟨rfl,rfl⟩)|(go_at_call 161;refine(wGz _ _).mono ?_;rintro e w' ⟨rfl,rfl⟩))
     go_ret
     exact⟨yN (xH fun h=>by
      rcases h.each k hlt with h|h<;>rw[HY.o] at h<;>(simp only[uBz,uCz] at h;have:=A1.o;have:=A2.o;omega)).symm,rfl⟩
  ·go_wp2
   go_ret
   exact⟨yN (xI ⟨h1,h2,fun i hi=>by
    rcases HS.o i zM with h|h
    ·exact .inl h
    ·by_cases e:i=0
     ·subst e;exact .inl H3.o
     ·exact .inr ⟨h,e⟩⟩).symm,rfl⟩
end
section
open Go.Lib
end
section
open Go.RowKit
end
section
open Go.RowKit
end
section
open Go.RowKit
end
section
open Go.RowKit
end
end Go.Proofs.YtdcofkabaigjpaaGreat
