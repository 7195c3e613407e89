/- Contract: the order of a patch's nodes, by the program. Contracts: what is valid, by the reference: clips, tracks, names, mixers. Plain laws on decimal numbers: what is written is read back. No program is named here. Contract: the text of a mark. Contracts: nested data marked cell by cell. Contracts: nested data compared with itself. Contracts: marks of nested data, and marks that are still there. -/
import Derived.Test.YtdcofkabaigjpaaGreatQAeUndone
import Derived.Test.YtdcofkabaigjpaaGreatQAbUndone
import Derived.Test.YtdcofkabaigjpaaGreatQAdUndone
import Derived.Test.YtdcofkabaigjpaaGreatQAaUndone
import Derived.Lib.ItoaNum
import Derived.Lib.ItoaLen
import Derived.Lib.ParseIntB
import Derived.Lib.ParseIntBCases
import Derived.Lib.ParseIntBTie
import Derived.Deep.RegionHeld3
set_option linter.unusedVariables false
set_option linter.unusedSimpArgs false
set_option maxHeartbeats 2000000
set_option maxRecDepth 20000
namespace Go.Proofs.YtdcofkabaigjpaaGreat
section
open Go.RowKit
def Tk (w:World) (B g n:Nat) (f:Nat→Bool):Prop:=w.ownsRow B 4 1 (.slice (some ⟨g,0,none⟩) n n) n ((List.range n).map fun i=> .bool (f i))
theorem Tk.cell {w:World} {B g n:Nat} {f:Nat→Bool} (h:Tk w B g n f) {i:Nat} (hi:i<n):w.cell? ⟨g,i,none⟩=some (.bool (f i)):=by
 rw[World.ownsRow.cellAt h i zM,List.getElem?_map,List.getElem?_range hi];rfl
theorem Tk.free {w:World} {B g n:Nat} {f:Nat→Bool} (h:Tk w B g n f) (i:Nat):w.frozen? ⟨g,i,none⟩=false:=World.ownsRow.frozenAt h i
theorem Tk.lt {w:World} {B g n:Nat} {f:Nat→Bool} (h:Tk w B g n f):g<w.heap.size:=(World.ownsRow.lt h g rfl).2
theorem Tk.all {w w':World} {B g n:Nat} {f:Nat→Bool} (h:Tk w B g n f) (hb:Below w.heap.size w w'):Tk w' B g n f:=yZz h hb
theorem Tk.grown {w w':World} {B g n:Nat} {f:Nat→Bool} {row:Option Nat} (h:Tk w B g n f) (hg:w.grownBy w' row) (hr:some g≠row):Tk w' B g n f:=
 vW (fun b hb=>by injection hb with hb;subst hb;exact hg.block _ h.lt hr) h
theorem Tk.set_ {w:World} {B g n:Nat} {f:Nat→Bool} (h:Tk w B g n f) (k:Nat):Tk (w.setCell ⟨g,k,none⟩ (.bool true)) B g n (fun i=>if i=k then true else f i):=by
 have:=(World.ownsRow.stored h k (.bool true)).1;unfold Tk
 have e:((List.range n).map fun i=>Value.bool (f i)).set k (.bool true)=(List.range n).map fun i=>Value.bool (if i=k then true else f i):=by
  apply List.ext_getElem
  ·simp
  ·intro i h1 h2
   rw[List.getElem_set];by_cases e:k=i
   ·simp[e]
   ·have e': ¬ i=k:=fun h=>e h.symm
    simp[e,e']
 rw[e] at this;exact this
theorem Tk.grown_set {w:World} {B g n:Nat} {f:Nat→Bool} (h:Tk w B g n f) (k:Nat):w.grownBy (w.setCell ⟨g,k,none⟩ (.bool true)) (some g):=(World.ownsRow.stored h k (.bool true)).2
theorem info_bool:(Tryz.prog.info? 4).map (fun i=>(i.zero,i.size,i.bytes))=some (some (.bool false),1,1):=by kernel_rfl
theorem Tk.made {w:World} {B g n:Nat} (h:w.ownsRow B 4 1 (.slice (some ⟨g,0,none⟩) n n) n (madeCells (Value.bool false).cells (n * 1)).toList):Tk w B g n fun _=>false:=by
 have e:(madeCells (Value.bool false).cells (n * 1)).toList=List.replicate n (Value.bool false):=by
  rw[Nat.mul_one];exact toList_madeCells_one _ n
 rw[e] at h;unfold Tk
 have e2:(List.range n).map (fun i=>Value.bool false)=List.replicate n (Value.bool false):=by
  apply List.ext_getElem
  ·simp
  ·intro i h1 h2;simp
 rw[e2];exact h
theorem readyB_of {nodes:List xP} {out:List Int} {k:Nat} {y:xP} (h:nodes[k]?=some y):uY nodes out k=(!decide ((k:Int) ∈ out) && (uF y).all fun f=>decide (f ∈ out)):=by
 unfold uY;rw[h];simp
theorem all_take_snoc {l:List Int} {out:List Int} {t:Nat} {f:Int} (h:l[t]?=some f):((l.take (t+1)).all fun f=>decide (f ∈ out))=((l.take t).all (fun f=>decide (f ∈ out)) && decide (f ∈ out)):=by
 rw[wW h,List.all_append];simp
def lenV:Value→Nat
 | .slice _ n _=>n
 |_=>0
def fdN:Value→Nat
 | .bool true=>1
 |_=>0
theorem mark_snoc (l:List Int) (k:Nat):(fun i:Nat=>if i=k then true else decide ((i:Int) ∈ l))=fun i:Nat=>decide ((i:Int) ∈ l++ [(k:Int)]):=by
 funext i
 by_cases e:i=k
 ·subst e;simp
 ·have: ¬ (i:Int)=(k:Int):=by omega
  simp[e,this]
theorem waits_idx {y:xP} {n:Int} (h:Idx y.zK n):Idx (uF y) n:=by
 unfold uF
 split
 ·intro i x hx;simp at hx
 ·exact h
theorem OwI.all {E:TypeId} {w w':World} {B:Nat} {v:Value} {xs:List Int} (h:OwI E w B v xs) (hb:Below w.heap.size w w'):OwI E w' B v xs:=h.below hb fun b hb'=>(h.lt b hb').2
theorem c_order (x:xQ) (cs:List Value) (w:World) (hn:x.zH.length≤1048576) (hw:Each x.zH fun _ y=>Idx y.zK (x.zH.length:Int)) (h:T.rds w x.fs cs):Calls Tryz.prog 126 #[.agg cs.toArray] w fun e w'=> ∃ v,e= .returned v∧OwI 2 w' w.heap.size v (zUz x.zH)∧Below w.heap.size w w':=by
 obtain⟨v1,v2,v3,rfl,h1,h2,h3⟩:=xQ.yR h;clear h;obtain⟨va1,vc1,rfl,vl1,vm1,R1,HX1⟩:=oG h1;clear h1;obtain⟨va2,vc2,rfl,vl2,vm2,R2,HX2⟩:=oG h2;clear h2;obtain⟨va3,vc3,rfl,vl3,vm3,R3,HX3⟩:=oI h3;clear h3;have HB0:=xL (show Below w.heap.size w (w.alloc (.cells #[.int .i64 x.zS,(.slice va1 x.zU.length vc1),(.slice va2 x.zH.length vc2),(.slice va3 x.zT.length vc3)] 81)) from zR.alloc zJ _);have HK0:=xL (Bk.born w 81 #[.int .i64 x.zS,(.slice va1 x.zU.length vc1),(.slice va2 x.zH.length vc2),(.slice va3 x.zT.length vc3)]);have HWF:=xL hw;clear hw;obtain⟨i0,hi,hz0,hz1,hz2⟩:=info_parts info_bool
 go_enter Tryz.func126,Tryz.ntmps126
 go_wp2_with (at_make;refine wpList_make_full _ rfl _ _ _ rfl w.heap.size 4 i0 _ 1 Tryz.underlying195 hi hz0 hz1 .i64 .i64 _ _ x.zH.length rfl rfl rfl rfl (by rw[hz2];omega) (by unfold maxLen;omega) (by simp) ?_;intro w1 hown1 hg1)
 have e1:(w.alloc (.cells #[.int .i64 x.zS,(.slice va1 x.zU.length vc1),(.slice va2 x.zH.length vc2),(.slice va3 x.zT.length vc3)] 81)).heap.size=w.heap.size+1:=by simp
 rw[e1] at hown1;have HT1:=xL (Tk.made hown1);have hz1':w.heap.size+2≤w1.heap.size:=by have:=HT1.out.lt;omega
 have HB1:=xL (HB0.out.grown hg1 (by rw[e1];omega) (by simp));have HK1:=xL (HK0.out.grown hg1 (by simp));clear hown1 hg1 e1 hi hz0 hz1 hz2 hz1';have hz1':w.heap.size+2≤w1.heap.size:=by have:=HT1.out.lt;omega
 go_loopw [4,5] (fun v fd wr=> ∃ (m:Nat) (b:Bool),fd= .bool b∧OwI 2 wr (w.heap.size+2) v (xH x.zH m)∧(xH x.zH m).length=m∧Tk wr w.heap.size (w.heap.size+1) x.zH.length (fun i=>decide ((i:Int) ∈ (xH x.zH m)))∧(b=false→nextF x.zH (xH x.zH m)=none)∧Bk wr w.heap.size 81 #[.int .i64 x.zS,(.slice va1 x.zU.length vc1),(.slice va2 x.zH.length vc2),(.slice va3 x.zT.length vc3)]∧Below w.heap.size w wr) (fun v fd _=>x.zH.length - lenV v+fdN fd)
 case atStart=>
  refine⟨0,true,rfl,(uX w1).more hz1',rfl,?_,fun h=>absurd h (by simp),HK1.out.alloc _,HB1.out.alloc zM _⟩;have:=HT1.out.all (zR.alloc zJ (.cells #[] 2))
  simpa[xH] using this
 case round=>
  obtain⟨m,b,rfl,ho,hlen,htk,hst,hbk,hbw⟩:=hrel;obtain⟨A,cp,rfl,hcl,hcm,_⟩:=ho.rd.open_;have HO:=xL ho;have HLEN:=xL hlen;have HTK:=xL htk;have HST:=xL hst;have HK:=xL hbk;have HB:=xL hbw;have hsz:=hbw.size;clear ho htk hst hbk hbw;have ka:=HK.out.cell;have la:=HK.out.lt;have hcap:=yHz (nodes:=x.zH) m
  cases b
  ·have HS2:=xL (HST.out rfl)
   have HE:=xL (xQz HS2.out HLEN.out);clear hlen hcap;go_wp2;go_ret
   exact⟨_,rfl,by rw[HE.out];exact HO.out.more zM,HB.out⟩
  rw[hlen] at hcap hcl ⊢;have HO':=xL (show OwI 2 wr (w.heap.size+2) (.slice A m cp) (xH x.zH m) by have:=HO.out;rwa [hlen] at this);clear hlen;go_wp2;clear ka la;generalize wr=wo at *
  go_loopw [4,5,20] (fun v fd i wr=> ∃ k:Nat,k≤x.zH.length∧i= .int .i64 k∧v= .slice A m cp∧fd= .bool false∧(∀ j,j<k→uY x.zH (xH x.zH m) j=false)∧Below wo.heap.size wo wr) (fun _ _ i _=>x.zH.length - (intOf i).toNat)
  case atStart=>exact⟨0,Nat.zero_le _,rfl,rfl,rfl,fun j h=>absurd h zM,zR⟩
  case round=>
   obtain⟨k,hk,rfl,rfl,rfl,hno,hbw⟩:=hrel;have HNO:=xL hno;have HW:=xL hbw;have HB2:=xL (yM HB.out HB.out.size hbw);have HK2:=xL (HK.out.below hbw HK.out.lt);have HT2:=xL (HTK.out.all hbw);have HO2:=xL (HO'.out.all hbw);clear hno hbw;have ka:=HK2.out.cell;have la:=HK2.out.lt;have lt:=HT2.out.lt;by_cases hlt:k<x.zH.length
   rotate_left
   ·have hnone:=xL (nextF_none (nodes:=x.zH) (out:=(xH x.zH m)) (fun j hj=>HNO.out j zM))
    go_wp2
    go_roundw
    case rel=>exact⟨m,false,rfl,HO2.out,HLEN.out,HT2.out,fun _=>hnone.out,HK2.out,HB2.out⟩
    case measure=>show x.zH.length - m+0<x.zH.length - m+1;omega
   have hgk:=gE hlt;obtain⟨b1,off,cs1,hA,hb1,hcs,hcell⟩:=HX2.out k x.zH[k] hgk;subst hA;generalize x.zH[k]=y at *;have HG:=xL hgk;have HWY:=xL (HWF.out k y hgk);clear hgk;obtain⟨u3,rfl,hRY3⟩:=xP.yR (show T.rds _ _ _ by simpa only[xP.t,T.rd] using hcs);have d0:=(HB2.out.cell hb1).trans (hcell 0 (.int .i64 y.zC) rfl);have d1:=(HB2.out.cell hb1).trans (hcell 1 (.int .i64 y.fA) rfl);have d2:=(HB2.out.cell hb1).trans (hcell 2 (.int .i64 y.fB) rfl);have d3:=(HB2.out.cell hb1).trans (hcell 3 (u3) rfl);rw[show off+(k * 4+0)=off+k * 4 by omega] at d0;rw[show off+(k * 4+1)=off+k * 4+1 by omega] at d1;rw[show off+(k * 4+2)=off+k * 4+2 by omega] at d2;rw[show off+(k * 4+3)=off+k * 4+3 by omega] at d3;have RY3:=xL (T.yH hRY3 HB2.out);clear hRY3;clear hcs hcell;have RY3i:=xL (T.yZ.1 RY3.out);obtain⟨ua3,uc3,rfl,ul3,um3,ux3⟩:=RY3i.out.open_;clear ux3;have hq1:b1<wr.heap.size:=zW hb1 HB2.out.size;have ct:=HT2.out.cell hlt;have HRDY:=xL (readyB_of (out:=(xH x.zH m)) HG.out);generalize hk0:decide ((k:Int) ∈ (xH x.zH m))=kin at *;clear hk0;have HWY2:=xL (show Below wr.heap.size wr (wr.alloc (.cells #[.int .i64 y.zC,.int .i64 y.fA,.int .i64 y.fB,(.slice ua3 y.zK.length uc3)] 120)) from zR.alloc zJ _);go_wp2_with fail
   refine(c_waitsFor y _ _ (xP.rd_mk (T.yH RY3.out HWY2.out))).mono ?_;rintro e w4 ⟨u,rfl,hu,hb4⟩;have HB4:=xL (yM HWY2.out HWY2.out.size hb4);clear hb4;have HB5:=xL (yM HB2.out HB2.out.size HB4.out);have HK5:=xL (HK2.out.below HB4.out HK2.out.lt);have HT5:=xL (HT2.out.all HB4.out);have HO5:=xL (HO2.out.all HB4.out);have HW5:=xL (yM HW.out HW.out.size HB4.out);have HU:=xL hu;obtain⟨ua,uc,rfl,hul,hum,hux⟩:=hu.open_;have HUX:=xL hux;clear hux ka la lt ct d0 d1 d2 d3 hq1 hu;go_wp2
   go_loopw [8,33] (fun r i ws=> ∃ t:Nat,t≤(uF y).length∧i= .int .i64 t∧r= .bool (!kin && ((uF y).take t).all fun f=>decide (f ∈ (xH x.zH m)))∧Below w4.heap.size w4 ws) (fun _ i _=>(uF y).length - (intOf i).toNat)
   case atStart=>exact⟨0,Nat.zero_le _,rfl,by simp,zR⟩
   case round=>
    obtain⟨t,ht,rfl,rfl,hbs⟩:=hrel;have HW6:=xL hbs;have HB6:=xL (yM HB5.out HB5.out.size hbs);have HK6:=xL (HK5.out.below hbs HK5.out.lt);have HT6:=xL (HT5.out.all hbs);have HO6:=xL (HO5.out.all hbs);clear hbs;have ka:=HK6.out.cell;have la:=HK6.out.lt;have lt:=HT6.out.lt;generalize hgr:(!kin && ((uF y).take t).all fun f=>decide (f ∈ (xH x.zH m)))=r at *;have HR:=xL hgr;clear hgr;by_cases hltt:t<(uF y).length
    ·have hgt:=gE hltt
     obtain⟨b3,off3,hA,hb3,hcf⟩:=HUX.out t (uF y)[t] hgt;subst hA;generalize (uF y)[t]=fv at *;have HF:=xL hgt;clear hgt;have hfr:=(waits_idx HWY.out) t fv HF.out;obtain⟨fn,rfl⟩: ∃ fn:Nat,fv=(fn:Int):=⟨fv.toNat,by omega⟩;have hfn:fn<x.zH.length:=by omega
     have cf:=(HW6.out.cell hb3).trans hcf;have hq3:b3<wr.heap.size:=zW hb3 HW6.out.size;have ct:=HT6.out.cell hfn;have HSN:=xL (all_take_snoc (out:=(xH x.zH m)) HF.out);generalize hf0:decide ((fn:Int) ∈ (xH x.zH m))=fin at *;clear hf0 hfr;have n1:((fn:Int)<(x.zH.length:Int)):=by omega
     cases r
     ·go_wp2
      go_roundw
      case rel=>exact⟨t+1,by omega,by go_num,by rw[HSN.out,←Bool.and_assoc,HR.out];rfl,HW6.out⟩
      case measure=>simp[intOf];omega
     ·go_wp2
      go_roundw
      case rel=>exact⟨t+1,by omega,by go_num,by rw[HSN.out,←Bool.and_assoc,HR.out];rfl,HW6.out⟩
      case measure=>simp[intOf];omega
    have ht2:t=(uF y).length:=by omega
    have HRD:=xL (show uY x.zH (xH x.zH m) k=r by rw[HRDY.out,←HR.out,ht2,List.take_length]);clear ht2
    cases r
    ·go_wp2
     go_roundw
     case rel=>exact⟨k+1,by omega,by go_num,rfl,rfl,fun j hj=>by
    by_cases e:j=k
    ·subst e;exact HRD.out
    ·exact HNO.out j zM,yM HW5.out HW5.out.size HW6.out⟩
     case measure=>simp[intOf];omega
    have HNX:=xL (nextF_some hlt HRD.out HNO.out);have fr:=HT6.out.free k;have ck:=HT6.out.cell hlt;have n2:((k:Int)<(x.zH.length:Int)):=by omega
    have HT7:=xL (show Tk (wr.setCell ⟨w.heap.size+1,k,none⟩ (.bool true)) w.heap.size (w.heap.size+1) x.zH.length (fun i=>decide ((i:Int) ∈ (xH x.zH m)++ [(k:Int)])) by have:=HT6.out.set_ k;rw[mark_snoc] at this;exact this);have HG7:=xL (HT6.out.grown_set k);have HO7:=xL (HO6.out.far (p:=⟨w.heap.size+1,k,none⟩) (fun b hb=>by have:=(HO6.out.lt b hb).1;simp only;omega) (.bool true));have HK7:=xL (HK6.out.far (p:=⟨w.heap.size+1,k,none⟩) (by simp only;omega) (.bool true));have HB7:=xL (HB6.out.grown HG7.out HB6.out.size (fun j hj=>by injection hj with hj;omega));have hs7:=HB7.out.size;have hz7:=HG7.out.size;have hbb:w.heap.size+2≤(wr.setCell ⟨w.heap.size+1,k,none⟩ (.bool true)).heap.size:=by omega
    have hll:(xH x.zH m).length+1≤17592186044416:=by rw[HLEN.out];omega
    have hsz7:(wr.setCell ⟨w.heap.size+1,k,none⟩ (.bool true)).heap.size=wr.heap.size:=by simp[World.setCell]
    go_wp2_with (at_builtin;refine xJz (n:=(k:Int)) rfl _ _ rfl rfl HO7.out (by show Value.slice (some ⟨wr.heap.size,0,none⟩) 1 1=_;rw[hsz7]) hll hbb ?_;intro v8 w8 ho8 hg8 hv8;have HO8:=xL ho8;have HG8:=xL hg8;clear ho8 hg8 hv8)
    have HB8:=xL (HB7.out.grown HG8.out zM (fun j hj=>by have:=(HO7.out.lt j hj).1;omega));have HT8:=xL (HT7.out.grown HG8.out (fun e=>by have:=(HO7.out.lt _ e.symm).1;omega));have HK8:=xL (HK7.out.grown HG8.out (fun e=>by have:=(HO7.out.lt _ e.symm).1;omega));have HSN:=xL (wJz HNX.out);have HL8:=xL (show (xH x.zH (m+1)).length=m+1 by rw[HSN.out,List.length_append,HLEN.out];rfl);have hc8:=yHz (nodes:=x.zH) (m+1);rw[HL8.out] at hc8;obtain⟨A8,c8,rfl,_,_,_⟩:=HO8.out.rd.open_;have HO9:=xL (show OwI 2 w8 (w.heap.size+2) (.slice A8 (m+1) c8) (xH x.zH (m+1)) by have:=HO8.out;rw[HSN.out];simpa[HLEN.out] using this);rw[show (xH x.zH m++ [(k:Int)]).length=m+1 by rw[←HSN.out];exact HL8.out];clear HO8 fr ck;go_wp2
    go_roundw
    case rel=>
     refine⟨m+1,true,rfl,HO9.out,HL8.out,?_,fun h=>absurd h (by simp),HK8.out,HB8.out⟩;have:=HT8.out;rw[HSN.out];exact this
    case measure=>show x.zH.length - (m+1)+1<x.zH.length - m+1;omega
end
section
open Go.RowKit
theorem T.at_sub {w:World} {fs:List T} {b o:Nat} (pre sub post:List Value) (hb:b<w.heap.size) (hc: ∀ j u,(pre++(sub++post))[j]?=some u→w.cell? ⟨b,o+j,none⟩=some u) (h:T.rds w fs sub):T.at w fs b (o+pre.length):=
 ⟨hb,sub,h,fun j u hj=>by
  have hl:=(List.getElem?_eq_some_iff.1 hj).1;have:=hc (pre.length+j) u (by rw[List.getElem?_append_right zM,Nat.add_sub_cancel_left,List.getElem?_append_left hl];exact hj)
  rwa [←Nat.add_assoc] at this⟩
theorem zJz (x:xR) (b o:Nat) (w:World) (h:T.at w x.fs b o):Calls Tryz.prog 83 #[.pointer (some ⟨b,o,none⟩)] w fun e w'=>e= .returned (.bool (tf (zMz x)))∧Below w.heap.size w w':=by
 have HAT:=xL h;obtain⟨hlt0,cs,hr,hc⟩:=h;obtain rfl:=xR.yR hr;clear hr;have HL:=xL hlt0;have HCC:=xL hc;have HB0:=xL (Below.refl w.heap.size w);clear hlt0 hc;have p0:w.cell? ⟨b,o,none⟩=some (.int .i64 x.zX):=(HB0.out.cell HL.out).trans (HCC.out 0 _ rfl);have p1:w.cell? ⟨b,o+1,none⟩=some (.int .i64 x.zK):=(HB0.out.cell HL.out).trans (HCC.out 1 _ rfl);have p2:w.cell? ⟨b,o+2,none⟩=some (.int .i64 x.zA):=(HB0.out.cell HL.out).trans (HCC.out 2 _ rfl);have p3:w.cell? ⟨b,o+3,none⟩=some (.int .i64 x.yE):=(HB0.out.cell HL.out).trans (HCC.out 3 _ rfl);have p4:w.cell? ⟨b,o+4,none⟩=some (.int .i64 x.zZ):=(HB0.out.cell HL.out).trans (HCC.out 4 _ rfl);have lb:b<w.heap.size:=zW HL.out HB0.out.size
 go_enter Tryz.func83,Tryz.ntmps83
 by_cases q1:inB x.zX 0 5=true
 rotate_left
 ·have q1':inB x.zX 0 5=false:=(by simpa using q1)
  go_wp2_with (first|(go_at_call 67;refine(xZ _ _ _ _).mono ?_;rintro e w' ⟨rfl,rfl⟩)|(go_at_call 84;refine(wH _ _).mono ?_;rintro e w' ⟨rfl,rfl⟩))
  go_ret
  exact⟨yK (xE fun h=>q1 h.source).symm,HB0.out⟩
 skip
 by_cases q2:inB x.zA 1 4000=true
 rotate_left
 ·have q2':inB x.zA 1 4000=false:=(by simpa using q2)
  go_wp2_with (first|(go_at_call 67;refine(xZ _ _ _ _).mono ?_;rintro e w' ⟨rfl,rfl⟩)|(go_at_call 84;refine(wH _ _).mono ?_;rintro e w' ⟨rfl,rfl⟩))
  go_ret
  exact⟨yK (xE fun h=>q2 h.length).symm,HB0.out⟩
 have i2:=xI.1 q2;by_cases q3:Smp x.zZ
 rotate_left
 ·have q3':decide (Smp x.zZ)=false:=decide_eq_false q3;have Q3:=xL q3;clear q3
  go_wp2_with (first|(go_at_call 67;refine(xZ _ _ _ _).mono ?_;rintro e w' ⟨rfl,rfl⟩)|(go_at_call 84;refine(wH _ _).mono ?_;rintro e w' ⟨rfl,rfl⟩))
  go_ret
  exact⟨yK (xE fun h=>Q3.out h.gain).symm,HB0.out⟩
 have q3':decide (Smp x.zZ)=true:=decide_eq_true q3;have Q3:=xL q3;clear q3;by_cases q4:inB x.zK 0 (4000 - x.zA)=true
 rotate_left
 ·have q4':inB x.zK 0 (4000 - x.zA)=false:=(by simpa using q4)
  go_wp2_with (first|(go_at_call 67;refine(xZ _ _ _ _).mono ?_;rintro e w' ⟨rfl,rfl⟩)|(go_at_call 84;refine(wH _ _).mono ?_;rintro e w' ⟨rfl,rfl⟩))
  have g0:=yI p0;have g1:=yI p1;have g2:=yI p2;have g3:=yI p3;have g4:=yI p4;refine rB ?_
  repeat(first|go_big_quiet_skip|(go_big_quiet_want;go_big_quiet_op;first|go_big_quiet_on|(apply Exists.intro;refine⟨fun _=>?_,?_⟩;(· ((go_at_call 67;exact Calls.yN ((xZ _ _ _ _).mono (fun e w' h=>by(first|rw[q4'] at h|skip);exact h)))));go_big_quiet_on)))
  refine wpQuiet_nil ?_;rintro w9 ⟨uu,rfl⟩;have hb9:=yJ w uu;generalize bel w uu=w9 at *;have HB9:=xL (yM HB0.out HB0.out.size hb9);clear g0 g1 g2 g3 g4;go_wp2;go_ret
  exact⟨yK (xE fun h=>q4 h.from_).symm,HB9.out⟩
 by_cases q5:inB x.yE 0 (4000 - x.zA)=true
 rotate_left
 ·have q5':inB x.yE 0 (4000 - x.zA)=false:=(by simpa using q5)
  go_wp2_with (first|(go_at_call 67;refine(xZ _ _ _ _).mono ?_;rintro e w' ⟨rfl,rfl⟩)|(go_at_call 84;refine(wH _ _).mono ?_;rintro e w' ⟨rfl,rfl⟩))
  have g0:=yI p0;have g1:=yI p1;have g2:=yI p2;have g3:=yI p3;have g4:=yI p4;refine rB ?_
  repeat(first|go_big_quiet_skip|(go_big_quiet_want;go_big_quiet_op;first|go_big_quiet_on|(apply Exists.intro;refine⟨fun _=>?_,?_⟩;(· ((go_at_call 67;exact Calls.yN ((xZ _ _ _ _).mono (fun e w' h=>by(first|rw[q4] at h|rw[q5'] at h|skip);exact h)))));go_big_quiet_on)))
  refine wpQuiet_nil ?_;rintro w9 ⟨uu,rfl⟩;have hb9:=yJ w uu;generalize bel w uu=w9 at *;have HB9:=xL (yM HB0.out HB0.out.size hb9);clear g0 g1 g2 g3 g4;go_wp2;go_ret
  exact⟨yK (xE fun h=>q5 h.at_).symm,HB9.out⟩
 go_wp2_with (first|(go_at_call 67;refine(xZ _ _ _ _).mono ?_;rintro e w' ⟨rfl,rfl⟩)|(go_at_call 84;refine(wH _ _).mono ?_;rintro e w' ⟨rfl,rfl⟩))
 have g0:=yI p0;have g1:=yI p1;have g2:=yI p2;have g3:=yI p3;have g4:=yI p4;refine rB ?_
 repeat(first|go_big_quiet_skip|(go_big_quiet_want;go_big_quiet_op;first|go_big_quiet_on|(apply Exists.intro;refine⟨fun _=>?_,?_⟩;(· ((go_at_call 67;exact Calls.yN ((xZ _ _ _ _).mono (fun e w' h=>by(first|rw[q4] at h|rw[q5] at h|skip);exact h)))));go_big_quiet_on)))
 refine wpQuiet_nil ?_;rintro w9 ⟨uu,rfl⟩;have hb9:=yJ w uu;generalize bel w uu=w9 at *;have HB9:=xL (yM HB0.out HB0.out.size hb9);clear g0 g1 g2 g3 g4;go_wp2;go_ret
 exact⟨yK (xG ⟨q1,q2,q4,q5,Q3.out⟩).symm,HB9.out⟩
theorem c_l23Ok (x:xN) (b o:Nat) (w:World) (h:T.at w x.fs b o):Calls Tryz.prog 134 #[.pointer (some ⟨b,o,none⟩)] w fun e w'=>e= .returned (.bool (tf (uJ x)))∧Below w.heap.size w w':=by
 have HAT:=xL h;obtain⟨hlt0,cs,hr,hc⟩:=h;obtain⟨v0,rfl,h0⟩:=xN.yR hr;clear hr;obtain⟨va0,vc0,rfl,vl0,vm0,R0,HX0⟩:=oG h0;clear h0;have HL:=xL hlt0;have HCC:=xL hc;have HB0:=xL (Below.refl w.heap.size w);clear hlt0 hc;have p0:w.cell? ⟨b,o,none⟩=some (.slice va0 x.zL.length vc0):=(HB0.out.cell HL.out).trans (HCC.out 0 _ rfl);have lb:b<w.heap.size:=zW HL.out HB0.out.size
 go_enter Tryz.func134,Tryz.ntmps134
 go_wp2;clear p0 lb
 go_loopw [3] (fun i wr=> ∃ k:Nat,k≤x.zL.length∧i= .int .i64 k∧vF x.zL (fun i c=>zMz c∧ ∀ p,0<i→x.zL[i - 1]?=some p→p.yE≤c.yE) k∧Below w.heap.size w wr) (fun i _=>x.zL.length - (intOf i).toNat)
 case atStart=>exact⟨0,Nat.zero_le _,rfl,vF.zero,zR⟩
 case round=>
  obtain⟨k,hk,rfl,hs,hbw⟩:=hrel;have HS:=xL hs;have HW:=xL hbw;have HB:=xL (yM HB0.out HB0.out.size hbw);clear hs hbw;have p0:wr.cell? ⟨b,o,none⟩=some (.slice va0 x.zL.length vc0):=(HB.out.cell HL.out).trans (HCC.out 0 _ rfl);have lb:b<wr.heap.size:=zW HL.out HB.out.size;by_cases hlt:k<x.zL.length
  rotate_left
  ·have hall:=xL (HS.out.all zM);clear HS
   by_cases h12:x.zL.length≤12
   ·go_wp2
    go_ret
    exact⟨yK (by rw[xG ⟨hall.out,h12⟩];exact decide_eq_true zM),HB.out⟩
   ·go_wp2
    go_ret
    exact⟨yK (by rw[xE fun h=>h12 h.few];exact decide_eq_false zM),HB.out⟩
  have hgk:=gE hlt;obtain⟨b1,off,csy,hA,hb1,hcs,hcell⟩:=HX0.out k x.zL[k] hgk;subst hA;generalize x.zL[k]=y at *;have HG:=xL hgk;clear hgk;have HAy:=xL (T.at_elem (o:=off+k * 5) hb1 (show T.rds w y.fs csy by simpa only[xR.t,T.rd] using hcs) hcell zM);clear hcs hcell;have n1:((k:Int)<(x.zL.length:Int)):=by omega
  by_cases hk0:k=0
  ·have g0':decide (0<k)=false:=decide_eq_false zM
   have K0:=xL hk0;clear hk0;by_cases q1:zMz y
   ·have a1:=xG q1;have Q1:=xL q1;clear q1
    go_wp2;have g0:=yI p0;refine rB ?_
    repeat(first|go_big_quiet_skip|(go_big_quiet_want;go_big_quiet_op;first|go_big_quiet_on|(apply Exists.intro;refine⟨fun _=>?_,?_⟩;(· (go_at_call 83;exact Calls.yO ((zJz y _ _ _ (T.at_below HAy.out (yM HB.out HB.out.size (yJ wr _)))).mono (fun e w' h=>by rw[a1] at h;exact h))));go_big_quiet_on)))
    refine wpQuiet_nil ?_;rintro w9 ⟨uu,rfl⟩;have hb9:=yJ wr uu;generalize bel wr uu=w9 at *;have HB9:=xL (yM HB.out HB.out.size hb9);clear g0;have HW9:=xL (yM HW.out HW.out.size hb9);clear hb9;go_wp2
    go_roundw
    case rel=>exact⟨k+1,by omega,by go_num,HS.out.step HG.out ⟨Q1.out,fun p h=>by have:=K0.out;omega⟩,HW9.out⟩
    case measure=>simp[intOf];omega
   ·have a1:=xE q1;have Q1:=xL q1;clear q1
    go_wp2;have g0:=yI p0;refine rB ?_
    repeat(first|go_big_quiet_skip|(go_big_quiet_want;go_big_quiet_op;first|go_big_quiet_on|(apply Exists.intro;refine⟨fun _=>?_,?_⟩;(· (go_at_call 83;exact Calls.yO ((zJz y _ _ _ (T.at_below HAy.out (yM HB.out HB.out.size (yJ wr _)))).mono (fun e w' h=>by rw[a1] at h;exact h))));go_big_quiet_on)))
    refine wpQuiet_nil ?_;rintro w9 ⟨uu,rfl⟩;have hb9:=yJ wr uu;generalize bel wr uu=w9 at *;have HB9:=xL (yM HB.out HB.out.size hb9);clear g0;have HW9:=xL (yM HW.out HW.out.size hb9);clear hb9;go_wp2;go_ret
    exact⟨yK (xE fun h=>Q1.out (h.clips k y HG.out).1).symm,HB9.out⟩
  obtain⟨j,rfl⟩: ∃ j,k=j+1:=⟨k - 1,by omega⟩;clear hk0;have hltj:j<x.zL.length:=by omega
  have hgk:=gE hltj;obtain⟨b2,off2,csz,hA,hb2,hcs,hcell⟩:=HX0.out j x.zL[j] hgk;obtain⟨rfl,rfl⟩:b1=b2∧off=off2:=by injection hA with hA;injection hA with e1 e2;exact⟨e1,e2⟩
  clear hA;generalize x.zL[j]=z at *;have HJ:=xL hgk;clear hgk;have HAz:=xL (T.at_elem (o:=off+j * 5) hb2 (show T.rds w z.fs csz by simpa only[xR.t,T.rd] using hcs) hcell zM);clear hcs hcell;obtain⟨_,csy',hry,hcy⟩:=HAy.out;obtain rfl:=xR.yR hry;have cy3:wr.cell? ⟨b1,off+(j+1) * 5+3,none⟩=some (.int .i64 y.yE):=(HB.out.cell hb1).trans (hcy 3 _ rfl);obtain⟨_,csz',hrz,hcz⟩:=HAz.out;obtain rfl:=xR.yR hrz;have cz3:wr.cell? ⟨b1,off+j * 5+3,none⟩=some (.int .i64 z.yE):=(HB.out.cell hb1).trans (hcz 3 _ rfl);clear hry hcy hrz hcz;have e1:IntKind.i64.wrap ((j:Int)+1 - 1)=(j:Int):=by rw[IntWalk.i64_in _ zM];omega
  have e2:IntKind.i64.wrap (j:Int)=(j:Int):=IntWalk.i64_in _ zM;have n0:(0:Int)≤(j:Int):=by omega
  have n2:((j:Int)<(x.zL.length:Int)):=by omega
  have n3:((j:Int)+1<(x.zL.length:Int)):=by omega
  have n4:(0:Int)≤(j:Int)+1:=by omega
  by_cases q1:zMz y
  rotate_left
  ·have a1:=xE q1;have Q1:=xL q1;clear q1
   go_wp2;have g0:=yI p0;have g1:=yI cy3;have g2:=yI cz3;refine rB ?_
   repeat(first|go_big_quiet_skip|(go_big_quiet_want;go_big_quiet_op;first|go_big_quiet_on|(apply Exists.intro;refine⟨fun _=>?_,?_⟩;(· (go_at_call 83;exact Calls.yO ((zJz y _ _ _ (T.at_below HAy.out (yM HB.out HB.out.size (yJ wr _)))).mono (fun e w' h=>by rw[a1] at h;exact h))));go_big_quiet_on)))
   refine wpQuiet_nil ?_;rintro w9 ⟨uu,rfl⟩;have hb9:=yJ wr uu;generalize bel wr uu=w9 at *;have HB9:=xL (yM HB.out HB.out.size hb9);clear g0 g1 g2;have HW9:=xL (yM HW.out HW.out.size hb9);clear hb9;go_wp2;go_ret
   exact⟨yK (xE fun h=>Q1.out (h.clips (j+1) y HG.out).1).symm,HB9.out⟩
  have a1:=xG q1;have Q1:=xL q1;clear q1;by_cases q2:y.yE<z.yE
  ·have q2':decide (y.yE<z.yE)=true:=decide_eq_true q2;have Q2:=xL q2
   go_wp2;have g0:=yI p0;have g1:=yI cy3;have g2:=yI cz3;refine rB ?_
   repeat(first|go_big_quiet_skip|(go_big_quiet_want;go_big_quiet_op;first|go_big_quiet_on|(apply Exists.intro;refine⟨fun _=>?_,?_⟩;(· (go_at_call 83;exact Calls.yO ((zJz y _ _ _ (T.at_below HAy.out (yM HB.out HB.out.size (yJ wr _)))).mono (fun e w' h=>by rw[a1] at h;exact h))));go_big_quiet_on)))
   refine wpQuiet_nil ?_;rintro w9 ⟨uu,rfl⟩;have hb9:=yJ wr uu;generalize bel wr uu=w9 at *;have HB9:=xL (yM HB.out HB.out.size hb9);clear g0 g1 g2;have HW9:=xL (yM HW.out HW.out.size hb9);clear hb9;go_wp2;go_ret
   exact⟨yK (xE fun h=>by have:=(h.clips (j+1) y HG.out).2 z zM HJ.out;have:=Q2.out;omega).symm,HB9.out⟩
  have q2':decide (y.yE<z.yE)=false:=decide_eq_false q2;go_wp2;have g0:=yI p0;have g1:=yI cy3;have g2:=yI cz3;refine rB ?_
  repeat(first|go_big_quiet_skip|(go_big_quiet_want;go_big_quiet_op;first|go_big_quiet_on|(apply Exists.intro;refine⟨fun _=>?_,?_⟩;(· (go_at_call 83;exact Calls.yO ((zJz y _ _ _ (T.at_below HAy.out (yM HB.out HB.out.size (yJ wr _)))).mono (fun e w' h=>by rw[a1] at h;exact h))));go_big_quiet_on)))
  refine wpQuiet_nil ?_;rintro w9 ⟨uu,rfl⟩;have hb9:=yJ wr uu;generalize bel wr uu=w9 at *;have HB9:=xL (yM HB.out HB.out.size hb9);clear g0 g1 g2;have HW9:=xL (yM HW.out HW.out.size hb9);clear hb9;go_wp2
  go_roundw
  case rel=>exact⟨j+1+1,by omega,by go_num,HS.out.step HG.out ⟨Q1.out,fun p _ hp=>by rw[Nat.add_sub_cancel,HJ.out] at hp;injection hp with hp;subst hp;omega⟩,HW9.out⟩
  case measure=>simp[intOf];omega
theorem c_sValidTrack (x:xN) (cs:List Value) (w:World) (h:T.rds w x.fs cs):Calls Tryz.prog 105 #[.agg cs.toArray] w fun e w'=>e= .returned (.bool (tf (uJ x)))∧Below w.heap.size w w':=by
 obtain⟨v0,rfl,h0⟩:=xN.yR h;clear h;obtain⟨va0,vc0,rfl,vl0,vm0,R0,HX0⟩:=oG h0;clear h0;have HB0:=xL (show Below w.heap.size w (w.alloc (.cells #[(.slice va0 x.zL.length vc0)] 69)) from zR.alloc zJ _);have HK0:=xL (Bk.born w 69 #[(.slice va0 x.zL.length vc0)])
 go_enter Tryz.func105,Tryz.ntmps105
 go_wp2_with fail
 refine(c_l23Ok x _ _ _ (T.at_bk HK0.out (xN.rd_mk (T.yH R0.out HB0.out)))).mono ?_;rintro e w1 ⟨rfl,hd⟩;have H1:=xL (yM HB0.out HB0.out.size hd);clear hd;go_wp2;go_ret
 exact⟨rfl,H1.out⟩
theorem wSz (x:xN) (b o:Nat) (n:Int) (w:World) (n0:0≤n) (n1:n≤1048576) (h:T.at w x.fs b o):Calls Tryz.prog 70 #[.pointer (some ⟨b,o,none⟩),.int .i64 n] w fun e w'=>e= .returned (.bool (tf (uJ x∧Each x.zL fun _ c=>c.zX<n)))∧Below w.heap.size w w':=by
 have HAT:=xL h;obtain⟨hlt0,cs,hr,hc⟩:=h;obtain⟨v0,rfl,h0⟩:=xN.yR hr;clear hr;obtain⟨va0,vc0,rfl,vl0,vm0,R0,HX0⟩:=oG h0;clear h0;have HL:=xL hlt0;have HCC:=xL hc;have HB0:=xL (Below.refl w.heap.size w);clear hlt0 hc;have p0:w.cell? ⟨b,o,none⟩=some (.slice va0 x.zL.length vc0):=(HB0.out.cell HL.out).trans (HCC.out 0 _ rfl);have lb:b<w.heap.size:=zW HL.out HB0.out.size
 go_enter Tryz.func70,Tryz.ntmps70
 go_wp2;clear p0 lb
 go_loopw [5] (fun i wr=> ∃ k:Nat,k≤x.zL.length∧i= .int .i64 k∧vF x.zL (fun _ c=>inB c.zX 0 (n - 1)=true) k∧Below w.heap.size w wr) (fun i _=>x.zL.length - (intOf i).toNat)
 case atStart=>exact⟨0,Nat.zero_le _,rfl,vF.zero,zR⟩
 case round=>
  obtain⟨k,hk,rfl,hs,hbw⟩:=hrel;have HS:=xL hs;have HW:=xL hbw;have HB:=xL (yM HB0.out HB0.out.size hbw);clear hs hbw;have p0:wr.cell? ⟨b,o,none⟩=some (.slice va0 x.zL.length vc0):=(HB.out.cell HL.out).trans (HCC.out 0 _ rfl);have lb:b<wr.heap.size:=zW HL.out HB.out.size;by_cases hlt:k<x.zL.length
  rotate_left
  ·have hall:=xL (HS.out.all zM);clear HS
   go_wp2_with fail
   refine(c_sValidTrack x _ _ (xN.rd_mk (T.yH R0.out HB.out))).mono ?_;rintro e w2 ⟨rfl,hb2⟩;have H2:=xL (yM HB.out HB.out.size hb2);clear hb2;go_wp2;go_ret
   exact⟨yK (tf_iff ⟨fun h=>⟨h,fun i c hc=>by have:=xI.1 (hall.out i c hc);omega⟩,fun h=>h.1⟩),H2.out⟩
  have hgk:=gE hlt;obtain⟨b1,off,csy,hA,hb1,hcs,hcell⟩:=HX0.out k x.zL[k] hgk;subst hA;generalize x.zL[k]=y at *;have HG:=xL hgk;clear hgk;have HAy:=xL (T.at_elem (o:=off+k * 5) hb1 (show T.rds w y.fs csy by simpa only[xR.t,T.rd] using hcs) hcell zM);clear hcs hcell;obtain⟨_,csy',hry,hcy⟩:=HAy.out;obtain rfl:=xR.yR hry;have cy0:wr.cell? ⟨b1,off+k * 5,none⟩=some (.int .i64 y.zX):=(HB.out.cell hb1).trans (hcy 0 _ rfl);have hq1:b1<wr.heap.size:=zW hb1 HB.out.size;clear hry hcy;by_cases q1:inB y.zX 0 (n - 1)=true
  rotate_left
  ·have q1':inB y.zX 0 (n - 1)=false:=(by simpa using q1)
   go_wp2_with (go_at_call 67;refine(xZ _ _ _ _).mono ?_;rintro e w' ⟨rfl,rfl⟩)
   go_ret
   exact⟨yK (xE fun h=>by have h1:=(h.1.clips k y HG.out).1.source;have h2:=h.2 k y HG.out;exact q1 (xI.2 ⟨(xI.1 h1).1,by omega⟩)).symm,HB.out⟩
  go_wp2_with (go_at_call 67;refine(xZ _ _ _ _).mono ?_;rintro e w' ⟨rfl,rfl⟩)
  go_roundw
  case rel=>exact⟨k+1,by omega,by go_num,HS.out.step HG.out q1,HW.out⟩
  case measure=>simp[intOf];omega
theorem zZz (x:Nat) (w:World):Calls Tryz.prog 160 #[.int .u8 (x:Int)] w fun e w'=>e= .returned (.bool (decide (97≤x∧x≤122)))∧w=w':=by
 by_cases h:97≤x
 all_goals
  go_enter Tryz.func160,Tryz.ntmps160
  go_wp2;go_ret
  exact⟨yK (by by_cases h2:x≤122<;>first|rfl|(simp[h,h2];done)|(simp[h,h2];omega)),rfl⟩
theorem yAz (x:Nat) (w:World):Calls Tryz.prog 161 #[.int .u8 (x:Int)] w fun e w'=>e= .returned (.bool (decide (48≤x∧x≤57)))∧w=w':=by
 by_cases h:48≤x
 all_goals
  go_enter Tryz.func161,Tryz.ntmps161
  go_wp2;go_ret
  exact⟨yK (by by_cases h2:x≤57<;>first|rfl|(simp[h,h2];done)|(simp[h,h2];omega)),rfl⟩
theorem ne_of_size {s:ByteArray} (h:1≤s.size):s.toList.isEmpty=false:=by
 rw[toList_eq];have hl:s.data.toList.length=s.size:=by rw[Array.length_toList];rfl
 generalize s.data.toList=l at *
 cases l with
 |nil=>simp at hl;omega
 |cons a t=>rfl
theorem zWz (s:ByteArray) (w:World):Calls Tryz.prog 133 #[.string s] w fun e w'=>e= .returned (.bool (tf (NameOk s)))∧w=w':=by
 by_cases h1:1≤s.size
 rotate_left
 ·have hs:s=ByteArray.empty:=by apply ByteArray.ext;apply Array.toList_inj.1;apply List.eq_nil_of_length_eq_zero;rw[Array.length_toList];have:s.data.size=s.size:=rfl;omega
  subst hs
  go_enter Tryz.func133,Tryz.ntmps133
  go_wp2;go_ret
  exact⟨yK (xE fun h=>h1 h.some_).symm,rfl⟩
 have hne:=ne_of_size h1;have HNE:=xL hne;by_cases h2:s.size≤10
 rotate_left
 ·go_enter Tryz.func133,Tryz.ntmps133
  go_wp2;go_ret
  exact⟨yK (xE fun h=>h2 h.few).symm,rfl⟩
 have hg0:=bA_get (s:=s) (n:=0) zM;have hb0:=bA_lt s 0;by_cases h3:97≤bA s 0∧bA s 0≤122
 rotate_left
 ·have d0:decide (97≤bA s 0∧bA s 0≤122)=false:=decide_eq_false h3
  have H3:=xL h3;clear h3
  go_enter Tryz.func133,Tryz.ntmps133
  go_wp2_with (first|(go_at_call 160;refine(zZz _ _).mono ?_;rintro e w' ⟨rfl,rfl⟩)|(go_at_call 161;refine(yAz _ _).mono ?_;rintro e w' ⟨rfl,rfl⟩))
  go_ret
  exact⟨yK (xE fun h=>by rcases h.each 0 zM with h|h<;>(simp only[xBz,xCz] at h;have:=H3.out;omega)).symm,rfl⟩
 have d0:decide (97≤bA s 0∧bA s 0≤122)=true:=decide_eq_true h3;have H3:=xL h3;clear h3
 go_enter Tryz.func133,Tryz.ntmps133
 go_wp2_with (first|(go_at_call 160;refine(zZz _ _).mono ?_;rintro e w' ⟨rfl,rfl⟩)|(go_at_call 161;refine(yAz _ _).mono ?_;rintro e w' ⟨rfl,rfl⟩))
 go_loop [3] (fun i=> ∃ k:Nat,k≤s.size∧i= .int .i64 k∧ ∀ i,i<k→xBz (bA s i)∨xCz (bA s i)) (fun i=>s.size - (intOf i).toNat)
 case atStart=>exact⟨0,Nat.zero_le _,rfl,fun i h=>absurd h zM⟩
 case round=>
  obtain⟨k,hk,rfl,hs⟩:=hrel;have HS:=xL hs;clear hs hg0 hb0 d0;by_cases hlt:k<s.size
  ·have hb:=bA_lt s k
   have hg:=bA_get hlt;generalize hy:bA s k=y at *;have HY:=xL hy;clear hy;by_cases a1:97≤y∧y≤122
   ·have d1:decide (97≤y∧y≤122)=true:=decide_eq_true a1
    have A1:=xL a1;clear a1;go_wp2_with (first|(go_at_call 160;refine(zZz _ _).mono ?_;rintro e w' ⟨rfl,rfl⟩)|(go_at_call 161;refine(yAz _ _).mono ?_;rintro e w' ⟨rfl,rfl⟩))
    go_round
    case rel=>exact⟨k+1,by omega,by go_num,fun i hi=>by
     by_cases e:i=k
     ·subst e;rw[HY.out];exact .inl A1.out
     ·exact HS.out i zM⟩
    case measure=>simp[intOf];omega
   ·have d1:decide (97≤y∧y≤122)=false:=decide_eq_false a1
    have A1:=xL a1;clear a1;by_cases a2:48≤y∧y≤57
    ·have d2:decide (48≤y∧y≤57)=true:=decide_eq_true a2
     have A2:=xL a2;clear a2;go_wp2_with (first|(go_at_call 160;refine(zZz _ _).mono ?_;rintro e w' ⟨rfl,rfl⟩)|(go_at_call 161;refine(yAz _ _).mono ?_;rintro e w' ⟨rfl,rfl⟩))
     go_round
     case rel=>exact⟨k+1,by omega,by go_num,fun i hi=>by
      by_cases e:i=k
      ·subst e;rw[HY.out];exact .inr A2.out
      ·exact HS.out i zM⟩
     case measure=>simp[intOf];omega
    ·have d2:decide (48≤y∧y≤57)=false:=decide_eq_false a2
     have A2:=xL a2;clear a2;go_wp2_with (first|(go_at_call 160;refine(zZz _ _).mono ?_;rintro e w' ⟨rfl,rfl⟩)|(go_at_call 161;refine(yAz _ _).mono ?_;rintro e w' ⟨rfl,rfl⟩))
     go_ret
     exact⟨yK (xE fun h=>by
      rcases h.each k hlt with h|h<;>rw[HY.out] at h<;>(simp only[xBz,xCz] at h;have:=A1.out;have:=A2.out;omega)).symm,rfl⟩
  ·go_wp2
   go_ret
   exact⟨yK (xG ⟨h1,h2,fun i hi=>by
    rcases HS.out i zM with h|h
    ·exact .inl h
    ·by_cases e:i=0
     ·subst e;exact .inl H3.out
     ·exact .inr ⟨h,e⟩⟩).symm,rfl⟩
end
section
open Go.Lib
end
section
open Go.RowKit
end
section
open Go.RowKit
end
section
open Go.RowKit
end
section
open Go.RowKit
end
end Go.Proofs.YtdcofkabaigjpaaGreat
