/- Contracts: what is valid, by the program: well formed patches. Laws for data that is marked cell by cell. No program is named here. Contract: the order of a patch's nodes, by the program. -/
import Derived.Test.YtoibekfhepnedaaGreatQAkExactSoundCache
import Derived.Test.YtoibekfhepnedaaGreatQAcExactSoundCache
set_option linter.unusedVariables false
set_option linter.unusedSimpArgs false
set_option maxHeartbeats 2000000
set_option maxRecDepth 20000
section
namespace Go.Proofs.YtoibekfhepnedaaGreat
open Go.RowKit
theorem c_waitsFor (x:GNode) (cs:List Value) (w:World) (h:T.rds w x.fs cs):Calls Tryz.prog 263 #[.agg cs.toArray] w fun e w'=> ∃ u,e= .returned u∧RdI w' u (waitsF x)∧Below w.heap.size w w':=by
 obtain⟨v3,rfl,h3⟩:=GNode.yN h
 clear h
 have h3i:=T.yR.1 h3;obtain⟨va3,vc3,rfl,vl3,vm3,vx3⟩:=h3i.open_
 have R3:=hide h3i;have HX3:=hide vx3;clear vx3 h3 h3i
 have HB0:=hide (show Below w.heap.size w (w.alloc (.cells #[.int .i64 x.zD,.int .i64 x.fA,.int .i64 x.fB,(.slice va3 x.zH.length vc3)] 167)) from(Below.refl _ _).alloc (Nat.le_refl _) _)
 have HK0:=hide (Bk.born w 167 #[.int .i64 x.zD,.int .i64 x.fA,.int .i64 x.fB,(.slice va3 x.zH.length vc3)])
 have HR:=hide (RdI.below R3.out HB0.out)
 by_cases h6:x.zD=6
 ·have h6':(x.zD == 6)=true:=yQ h6;have H6:=hide h6;clear h6
  go_enter Tryz.func263,Tryz.ntmps263
  go_wp2
  go_ret
  exact⟨_,rfl,by unfold waitsF;rw[if_pos H6.out];exact Rd.nil_ _ _,HB0.out⟩
 ·have h6':(x.zD == 6)=false:=yP h6;have H6:=hide h6;clear h6
  go_enter Tryz.func263,Tryz.ntmps263
  go_wp2
  go_ret
  exact⟨_,rfl,by unfold waitsF;rw[if_neg H6.out];exact HR.out,HB0.out⟩
theorem c_isWellFormed (x:GPatch) (cs:List Value) (w:World) (h:T.rds w x.fs cs):Calls Tryz.prog 222 #[.agg cs.toArray] w fun e w'=>e= .returned (.bool (tf (FormedOk x)))∧Below w.heap.size w w':=by
 obtain⟨v1,v2,v3,rfl,h1,h2,h3⟩:=GPatch.yN h
 clear h
 have R1:=hide h1;obtain⟨va1,vc1,rfl,vl1,vm1,vx1⟩:=T.yM h1
 have HX1:=hide vx1;clear vx1 h1
 have R2:=hide h2;obtain⟨va2,vc2,rfl,vl2,vm2,vx2⟩:=T.yM h2
 have HX2:=hide vx2;clear vx2 h2
 have h3i:=T.yR.1 h3;obtain⟨va3,vc3,rfl,vl3,vm3,vx3⟩:=h3i.open_
 have R3:=hide h3i;have HX3:=hide vx3;clear vx3 h3 h3i
 have HB0:=hide (show Below w.heap.size w (w.alloc (.cells #[.int .i64 x.zK,(.slice va1 x.zM.length vc1),(.slice va2 x.zB.length vc2),(.slice va3 x.zL.length vc3)] 108)) from(Below.refl _ _).alloc (Nat.le_refl _) _)
 have HK0:=hide (Bk.born w 108 #[.int .i64 x.zK,(.slice va1 x.zM.length vc1),(.slice va2 x.zB.length vc2),(.slice va3 x.zL.length vc3)])
 go_enter Tryz.func222,Tryz.ntmps222
 by_cases q1:inB x.zK 0 4=true
 rotate_left
 ·have q1':inB x.zK 0 4=false:=(by simpa using q1)
  go_wp2_with (first|(go_at_call 89;refine(c_within _ _ _ _).mono ?_;rintro e w' ⟨rfl,rfl⟩)|(go_at_call 260;refine(c_sizeNode _ _ _ _ (by omega)).mono ?_;rintro e w' ⟨rfl,rfl⟩)|(go_at_call 261;refine(c_areTables _ x.zM _ (T.yE R1.out HB0.out)).mono ?_;rintro e w' ⟨rfl,rfl⟩;rw[a2])|(go_at_call 86;refine(c_size _ x.zL _ (Rd.below R3.out HB0.out)).mono ?_;rintro e w' ⟨rfl,rfl⟩)|(go_at_call 105;refine(c_areIndices _ x.zL _ _ (Rd.below R3.out HB0.out) (by omega) (by omega)).mono ?_;rintro e w' ⟨rfl,rfl⟩;rw[a5]))
  go_ret
  exact⟨yH (yW fun h=>q1 h.inputs).symm,HB0.out⟩
 skip
 by_cases q2:TablesOk x.zM
 rotate_left
 ·have a2:=yW q2;have Q2:=hide q2;clear q2
  go_wp2_with (first|(go_at_call 89;refine(c_within _ _ _ _).mono ?_;rintro e w' ⟨rfl,rfl⟩)|(go_at_call 260;refine(c_sizeNode _ _ _ _ (by omega)).mono ?_;rintro e w' ⟨rfl,rfl⟩)|(go_at_call 261;refine(c_areTables _ x.zM _ (T.yE R1.out HB0.out)).mono ?_;rintro e w' ⟨rfl,rfl⟩;rw[a2])|(go_at_call 86;refine(c_size _ x.zL _ (Rd.below R3.out HB0.out)).mono ?_;rintro e w' ⟨rfl,rfl⟩)|(go_at_call 105;refine(c_areIndices _ x.zL _ _ (Rd.below R3.out HB0.out) (by omega) (by omega)).mono ?_;rintro e w' ⟨rfl,rfl⟩;rw[a5]))
  go_ret
  exact⟨yH (yW fun h=>Q2.out h.tables).symm,HB0.out⟩
 have a2:=yX q2;have Q2:=hide q2;clear q2
 by_cases q3:x.zB.length≤24
 rotate_left
 ·have Q3:=hide q3
  go_wp2_with (first|(go_at_call 89;refine(c_within _ _ _ _).mono ?_;rintro e w' ⟨rfl,rfl⟩)|(go_at_call 260;refine(c_sizeNode _ _ _ _ (by omega)).mono ?_;rintro e w' ⟨rfl,rfl⟩)|(go_at_call 261;refine(c_areTables _ x.zM _ (T.yE R1.out HB0.out)).mono ?_;rintro e w' ⟨rfl,rfl⟩;rw[a2])|(go_at_call 86;refine(c_size _ x.zL _ (Rd.below R3.out HB0.out)).mono ?_;rintro e w' ⟨rfl,rfl⟩)|(go_at_call 105;refine(c_areIndices _ x.zL _ _ (Rd.below R3.out HB0.out) (by omega) (by omega)).mono ?_;rintro e w' ⟨rfl,rfl⟩;rw[a5]))
  go_ret
  exact⟨yH (yW fun h=>q3 h.few).symm,HB0.out⟩
 have Q3:=hide q3
 by_cases q4:x.zL.length≤4
 rotate_left
 ·have Q4:=hide q4
  go_wp2_with (first|(go_at_call 89;refine(c_within _ _ _ _).mono ?_;rintro e w' ⟨rfl,rfl⟩)|(go_at_call 260;refine(c_sizeNode _ _ _ _ (by omega)).mono ?_;rintro e w' ⟨rfl,rfl⟩)|(go_at_call 261;refine(c_areTables _ x.zM _ (T.yE R1.out HB0.out)).mono ?_;rintro e w' ⟨rfl,rfl⟩;rw[a2])|(go_at_call 86;refine(c_size _ x.zL _ (Rd.below R3.out HB0.out)).mono ?_;rintro e w' ⟨rfl,rfl⟩)|(go_at_call 105;refine(c_areIndices _ x.zL _ _ (Rd.below R3.out HB0.out) (by omega) (by omega)).mono ?_;rintro e w' ⟨rfl,rfl⟩;rw[a5]))
  go_ret
  exact⟨yH (yW fun h=>q4 h.outs).symm,HB0.out⟩
 have Q4:=hide q4
 by_cases q5:Idx x.zL (x.zB.length:Int)
 rotate_left
 ·have a5:=yW q5;have Q5:=hide q5;clear q5
  go_wp2_with (first|(go_at_call 89;refine(c_within _ _ _ _).mono ?_;rintro e w' ⟨rfl,rfl⟩)|(go_at_call 260;refine(c_sizeNode _ _ _ _ (by omega)).mono ?_;rintro e w' ⟨rfl,rfl⟩)|(go_at_call 261;refine(c_areTables _ x.zM _ (T.yE R1.out HB0.out)).mono ?_;rintro e w' ⟨rfl,rfl⟩;rw[a2])|(go_at_call 86;refine(c_size _ x.zL _ (Rd.below R3.out HB0.out)).mono ?_;rintro e w' ⟨rfl,rfl⟩)|(go_at_call 105;refine(c_areIndices _ x.zL _ _ (Rd.below R3.out HB0.out) (by omega) (by omega)).mono ?_;rintro e w' ⟨rfl,rfl⟩;rw[a5]))
  go_ret
  exact⟨yH (yW fun h=>Q5.out h.outputs).symm,HB0.out⟩
 have a5:=yX q5;have Q5:=hide q5;clear q5
 go_wp2_with (first|(go_at_call 89;refine(c_within _ _ _ _).mono ?_;rintro e w' ⟨rfl,rfl⟩)|(go_at_call 260;refine(c_sizeNode _ _ _ _ (by omega)).mono ?_;rintro e w' ⟨rfl,rfl⟩)|(go_at_call 261;refine(c_areTables _ x.zM _ (T.yE R1.out HB0.out)).mono ?_;rintro e w' ⟨rfl,rfl⟩;rw[a2])|(go_at_call 86;refine(c_size _ x.zL _ (Rd.below R3.out HB0.out)).mono ?_;rintro e w' ⟨rfl,rfl⟩)|(go_at_call 105;refine(c_areIndices _ x.zL _ _ (Rd.below R3.out HB0.out) (by omega) (by omega)).mono ?_;rintro e w' ⟨rfl,rfl⟩;rw[a5]))
 clear a2 a5
 go_loopw [39] (fun i wr=> ∃ k:Nat,k≤x.zB.length∧i= .int .i64 k∧Upto x.zB (fun _ x_1=>NodeOk x_1 (x.zM.length:Int)∧Idx x_1.zH (x.zB.length:Int)∧(x_1.zD=1→x_1.fA<x.zK)) k∧Below (w.alloc (.cells #[.int .i64 x.zK,(.slice va1 x.zM.length vc1),(.slice va2 x.zB.length vc2),(.slice va3 x.zL.length vc3)] 108)).heap.size (w.alloc (.cells #[.int .i64 x.zK,(.slice va1 x.zM.length vc1),(.slice va2 x.zB.length vc2),(.slice va3 x.zL.length vc3)] 108)) wr) (fun i _=>x.zB.length - (intOf i).toNat)
 case atStart=>exact⟨0,Nat.zero_le _,rfl,Upto.zero,Below.refl _ _⟩
 case round=>
  obtain⟨k,hk,rfl,hs,hbw⟩:=hrel
  have HS:=hide hs;have HW:=hide hbw;have HB:=hide (yI HB0.out HB0.out.size hbw);have HK:=hide (HK0.out.below hbw HK0.out.lt);clear hs hbw
  have ka:=HK.out.cell;have la:=HK.out.lt
  by_cases hlt:k<x.zB.length
  rotate_left
  ·have hall:=hide (HS.out.all (by omega));clear HS
   go_wp2
   go_ret
   exact⟨yH (yX ⟨q1,Q2.out,Q3.out,Q4.out,Q5.out,hall.out⟩).symm,HB.out⟩
  have hgk:=List.getElem?_eq_getElem hlt
  obtain⟨b1,off,cs1,hA,hb1,hcs,hcell⟩:=HX2.out k x.zB[k] hgk
  subst hA
  generalize x.zB[k]=y at *
  have HG:=hide hgk;clear hgk
  obtain⟨u3,rfl,hRY3⟩:=GNode.yN (show T.rds _ _ _ by simpa only[GNode.t,T.rd] using hcs)
  have d0:=(HB.out.cell hb1).trans (hcell 0 (.int .i64 y.zD) rfl)
  have d1:=(HB.out.cell hb1).trans (hcell 1 (.int .i64 y.fA) rfl)
  have d2:=(HB.out.cell hb1).trans (hcell 2 (.int .i64 y.fB) rfl)
  have d3:=(HB.out.cell hb1).trans (hcell 3 (u3) rfl)
  rw[show off+(k * 4+0)=off+k * 4 by omega] at d0
  rw[show off+(k * 4+1)=off+k * 4+1 by omega] at d1
  rw[show off+(k * 4+2)=off+k * 4+2 by omega] at d2
  rw[show off+(k * 4+3)=off+k * 4+3 by omega] at d3
  have RY3:=hide (T.yE hRY3 HB.out);clear hRY3
  clear hcs hcell
  have RY3i:=hide (T.yR.1 RY3.out);obtain⟨ua3,uc3,rfl,ul3,um3,ux3⟩:=RY3i.out.open_;clear ux3
  have hq1:b1<wr.heap.size:=Nat.lt_of_lt_of_le hb1 HB.out.size
  by_cases p1:NodeOk y (x.zM.length:Int)
  rotate_left
  ·have b1':=yW p1;have P1:=hide p1;clear p1
   have hWb:Below wr.heap.size wr (wr.alloc (.cells #[.int .i64 y.zD,.int .i64 y.fA,.int .i64 y.fB,(.slice ua3 y.zH.length uc3)] 167)):=(Below.refl _ _).alloc (Nat.le_refl _) _
   have hNb:=Bk.born wr 167 #[.int .i64 y.zD,.int .i64 y.fA,.int .i64 y.fB,(.slice ua3 y.zH.length uc3)]
   go_wp2
   generalize wr.alloc (.cells #[.int .i64 y.zD,.int .i64 y.fA,.int .i64 y.fB,(.slice ua3 y.zH.length uc3)] 167)=W at *
   have HWb:=hide hWb;have HNb:=hide hNb;have HKW:=hide (HK.out.below hWb HK.out.lt)
   have g0:=xB hNb;have g1:=xB HKW.out
   clear hWb hNb
   refine xA (by kernel_rfl) (by kernel_rfl) ?_
   repeat(first|go_big_quiet_skip|(go_big_quiet_want;go_big_quiet_op;first|go_big_quiet_on|(apply Exists.intro;refine⟨fun _=>?_,?_⟩;(· (first|(go_at_call 109;exact Calls.yJ (c_sizeLL _ _ _ _ (by omega)))|(go_at_call 262;exact Calls.yK ((c_isNode y _ _ _ (GNode.rd_mk (T.yE RY3.out (yI HWb.out HWb.out.size (yG W _))))).mono (fun e w' h=>by rw[b1'] at h;exact h)))|(go_at_call 105;exact Calls.yJ ((c_areIndices _ y.zH _ _ (Rd.below RY3i.out (yI HWb.out HWb.out.size (yG W _))) (by omega) (by omega)).mono (fun e w' h=>by rw[b2'] at h;exact h)))));go_big_quiet_on)))
   refine wpQuiet_nil ?_
   rintro w9 ⟨uu,rfl⟩
   have hb9:=yG W uu
   generalize bel W uu=w9 at *
   have HC:=hide (yI HWb.out HWb.out.size hb9);have HC2:=hide (yI HB.out HB.out.size HC.out);have HC3:=hide (yI HW.out HW.out.size HC.out)
   clear hb9 g0 g1
   go_wp2
   go_ret
   exact⟨yH (yW fun h=>P1.out (h.nodes k y HG.out).1).symm,HC2.out⟩
  have b1':=yX p1;have P1:=hide p1;clear p1
  by_cases p2:Idx y.zH (x.zB.length:Int)
  rotate_left
  ·have b2':=yW p2;have P2:=hide p2;clear p2
   have hWb:Below wr.heap.size wr (wr.alloc (.cells #[.int .i64 y.zD,.int .i64 y.fA,.int .i64 y.fB,(.slice ua3 y.zH.length uc3)] 167)):=(Below.refl _ _).alloc (Nat.le_refl _) _
   have hNb:=Bk.born wr 167 #[.int .i64 y.zD,.int .i64 y.fA,.int .i64 y.fB,(.slice ua3 y.zH.length uc3)]
   go_wp2
   generalize wr.alloc (.cells #[.int .i64 y.zD,.int .i64 y.fA,.int .i64 y.fB,(.slice ua3 y.zH.length uc3)] 167)=W at *
   have HWb:=hide hWb;have HNb:=hide hNb;have HKW:=hide (HK.out.below hWb HK.out.lt)
   have g0:=xB hNb;have g1:=xB HKW.out
   clear hWb hNb
   refine xA (by kernel_rfl) (by kernel_rfl) ?_
   repeat(first|go_big_quiet_skip|(go_big_quiet_want;go_big_quiet_op;first|go_big_quiet_on|(apply Exists.intro;refine⟨fun _=>?_,?_⟩;(· (first|(go_at_call 109;exact Calls.yJ (c_sizeLL _ _ _ _ (by omega)))|(go_at_call 262;exact Calls.yK ((c_isNode y _ _ _ (GNode.rd_mk (T.yE RY3.out (yI HWb.out HWb.out.size (yG W _))))).mono (fun e w' h=>by rw[b1'] at h;exact h)))|(go_at_call 105;exact Calls.yJ ((c_areIndices _ y.zH _ _ (Rd.below RY3i.out (yI HWb.out HWb.out.size (yG W _))) (by omega) (by omega)).mono (fun e w' h=>by rw[b2'] at h;exact h)))));go_big_quiet_on)))
   refine wpQuiet_nil ?_
   rintro w9 ⟨uu,rfl⟩
   have hb9:=yG W uu
   generalize bel W uu=w9 at *
   have HC:=hide (yI HWb.out HWb.out.size hb9);have HC2:=hide (yI HB.out HB.out.size HC.out);have HC3:=hide (yI HW.out HW.out.size HC.out)
   clear hb9 g0 g1
   go_wp2
   go_ret
   exact⟨yH (yW fun h=>P2.out (h.nodes k y HG.out).2.1).symm,HC2.out⟩
  have b2':=yX p2;have P2:=hide p2;clear p2
  by_cases p3:y.zD=1
  rotate_left
  ·have p3':(y.zD == 1)=false:=yP p3;have P3:=hide p3;clear p3
   have hWb:Below wr.heap.size wr (wr.alloc (.cells #[.int .i64 y.zD,.int .i64 y.fA,.int .i64 y.fB,(.slice ua3 y.zH.length uc3)] 167)):=(Below.refl _ _).alloc (Nat.le_refl _) _
   have hNb:=Bk.born wr 167 #[.int .i64 y.zD,.int .i64 y.fA,.int .i64 y.fB,(.slice ua3 y.zH.length uc3)]
   go_wp2
   generalize wr.alloc (.cells #[.int .i64 y.zD,.int .i64 y.fA,.int .i64 y.fB,(.slice ua3 y.zH.length uc3)] 167)=W at *
   have HWb:=hide hWb;have HNb:=hide hNb;have HKW:=hide (HK.out.below hWb HK.out.lt)
   have g0:=xB hNb;have g1:=xB HKW.out
   clear hWb hNb
   refine xA (by kernel_rfl) (by kernel_rfl) ?_
   repeat(first|go_big_quiet_skip|(go_big_quiet_want;go_big_quiet_op;first|go_big_quiet_on|(apply Exists.intro;refine⟨fun _=>?_,?_⟩;(· (first|(go_at_call 109;exact Calls.yJ (c_sizeLL _ _ _ _ (by omega)))|(go_at_call 262;exact Calls.yK ((c_isNode y _ _ _ (GNode.rd_mk (T.yE RY3.out (yI HWb.out HWb.out.size (yG W _))))).mono (fun e w' h=>by rw[b1'] at h;exact h)))|(go_at_call 105;exact Calls.yJ ((c_areIndices _ y.zH _ _ (Rd.below RY3i.out (yI HWb.out HWb.out.size (yG W _))) (by omega) (by omega)).mono (fun e w' h=>by rw[b2'] at h;exact h)))));go_big_quiet_on)))
   refine wpQuiet_nil ?_
   rintro w9 ⟨uu,rfl⟩
   have hb9:=yG W uu
   generalize bel W uu=w9 at *
   have HC:=hide (yI HWb.out HWb.out.size hb9);have HC2:=hide (yI HB.out HB.out.size HC.out);have HC3:=hide (yI HW.out HW.out.size HC.out)
   clear hb9 g0 g1
   go_wp2
   go_roundw
   case rel=>exact⟨k+1,by omega,by go_num,HS.out.step HG.out ⟨P1.out,P2.out,fun h=>absurd h P3.out⟩,HC3.out⟩
   case measure=>simp[intOf];omega
  have p3':(y.zD == 1)=true:=yQ p3;have P3:=hide p3;clear p3
  by_cases p4:x.zK≤y.fA
  ·have p4':decide (x.zK≤y.fA)=true:=decide_eq_true p4;have P4:=hide p4
   have hWb:Below wr.heap.size wr (wr.alloc (.cells #[.int .i64 y.zD,.int .i64 y.fA,.int .i64 y.fB,(.slice ua3 y.zH.length uc3)] 167)):=(Below.refl _ _).alloc (Nat.le_refl _) _
   have hNb:=Bk.born wr 167 #[.int .i64 y.zD,.int .i64 y.fA,.int .i64 y.fB,(.slice ua3 y.zH.length uc3)]
   go_wp2
   generalize wr.alloc (.cells #[.int .i64 y.zD,.int .i64 y.fA,.int .i64 y.fB,(.slice ua3 y.zH.length uc3)] 167)=W at *
   have HWb:=hide hWb;have HNb:=hide hNb;have HKW:=hide (HK.out.below hWb HK.out.lt)
   have g0:=xB hNb;have g1:=xB HKW.out
   clear hWb hNb
   refine xA (by kernel_rfl) (by kernel_rfl) ?_
   repeat(first|go_big_quiet_skip|(go_big_quiet_want;go_big_quiet_op;first|go_big_quiet_on|(apply Exists.intro;refine⟨fun _=>?_,?_⟩;(· (first|(go_at_call 109;exact Calls.yJ (c_sizeLL _ _ _ _ (by omega)))|(go_at_call 262;exact Calls.yK ((c_isNode y _ _ _ (GNode.rd_mk (T.yE RY3.out (yI HWb.out HWb.out.size (yG W _))))).mono (fun e w' h=>by rw[b1'] at h;exact h)))|(go_at_call 105;exact Calls.yJ ((c_areIndices _ y.zH _ _ (Rd.below RY3i.out (yI HWb.out HWb.out.size (yG W _))) (by omega) (by omega)).mono (fun e w' h=>by rw[b2'] at h;exact h)))));go_big_quiet_on)))
   refine wpQuiet_nil ?_
   rintro w9 ⟨uu,rfl⟩
   have hb9:=yG W uu
   generalize bel W uu=w9 at *
   have HC:=hide (yI HWb.out HWb.out.size hb9);have HC2:=hide (yI HB.out HB.out.size HC.out);have HC3:=hide (yI HW.out HW.out.size HC.out)
   clear hb9 g0 g1
   go_wp2
   go_ret
   exact⟨yH (yW fun h=>by have:=(h.nodes k y HG.out).2.2 P3.out;have:=P4.out;omega).symm,HC2.out⟩
  have p4':decide (x.zK≤y.fA)=false:=decide_eq_false p4;have P4:=hide p4
  have hWb:Below wr.heap.size wr (wr.alloc (.cells #[.int .i64 y.zD,.int .i64 y.fA,.int .i64 y.fB,(.slice ua3 y.zH.length uc3)] 167)):=(Below.refl _ _).alloc (Nat.le_refl _) _
  have hNb:=Bk.born wr 167 #[.int .i64 y.zD,.int .i64 y.fA,.int .i64 y.fB,(.slice ua3 y.zH.length uc3)]
  go_wp2
  generalize wr.alloc (.cells #[.int .i64 y.zD,.int .i64 y.fA,.int .i64 y.fB,(.slice ua3 y.zH.length uc3)] 167)=W at *
  have HWb:=hide hWb;have HNb:=hide hNb;have HKW:=hide (HK.out.below hWb HK.out.lt)
  have g0:=xB hNb;have g1:=xB HKW.out
  clear hWb hNb
  refine xA (by kernel_rfl) (by kernel_rfl) ?_
  repeat(first|go_big_quiet_skip|(go_big_quiet_want;go_big_quiet_op;first|go_big_quiet_on|(apply Exists.intro;refine⟨fun _=>?_,?_⟩;(· (first|(go_at_call 109;exact Calls.yJ (c_sizeLL _ _ _ _ (by omega)))|(go_at_call 262;exact Calls.yK ((c_isNode y _ _ _ (GNode.rd_mk (T.yE RY3.out (yI HWb.out HWb.out.size (yG W _))))).mono (fun e w' h=>by rw[b1'] at h;exact h)))|(go_at_call 105;exact Calls.yJ ((c_areIndices _ y.zH _ _ (Rd.below RY3i.out (yI HWb.out HWb.out.size (yG W _))) (by omega) (by omega)).mono (fun e w' h=>by rw[b2'] at h;exact h)))));go_big_quiet_on)))
  refine wpQuiet_nil ?_
  rintro w9 ⟨uu,rfl⟩
  have hb9:=yG W uu
  generalize bel W uu=w9 at *
  have HC:=hide (yI HWb.out HWb.out.size hb9);have HC2:=hide (yI HB.out HB.out.size HC.out);have HC3:=hide (yI HW.out HW.out.size HC.out)
  clear hb9 g0 g1
  go_wp2
  go_roundw
  case rel=>exact⟨k+1,by omega,by go_num,HS.out.step HG.out ⟨P1.out,P2.out,fun _=>by have:=P4.out;omega⟩,HC3.out⟩
  case measure=>simp[intOf];omega
end Go.Proofs.YtoibekfhepnedaaGreat
end
section
namespace Go.Proofs.YtoibekfhepnedaaGreat
open Go.RowKit
section
variable {w w' a b:World} {F G:List Nat}
theorem Trn.refl (F:List Nat) (w:World):Trn F w w:=⟨rfl,rfl,rfl,Nat.le_refl _,fun _ _ _=>rfl⟩
theorem Trn.trans (h:Trn F w a) (k:Trn F a b):Trn F w b:=
 ⟨k.os.trans h.os,k.tape.trans h.tape,k.output.trans h.output,Nat.le_trans h.size k.size,fun x hx hn=>(k.block x (Nat.lt_of_lt_of_le hx h.size) hn).trans (h.block x hx hn)⟩
theorem Trn.of_below (h:Below w.heap.size w w'):Trn F w w':=⟨h.os,h.tape,h.output,h.size,fun x hx _=>h.block x hx⟩
theorem Trn.set_ {g:Nat} (hg:g ∈ F) (o:Nat) (u:Value):Trn F w (w.setCell ⟨g,o,none⟩ u):=
 ⟨rfl,rfl,rfl,by simp[World.setCell],fun x _ hn=>Below.heap_setCell w _ u x (fun e=>hn (by rw[show x=g from e];exact hg))⟩
theorem Trn.of_grown {v:Value} (h:w.grownBy w' v.ownBlock):Trn v.ownBlock.toList w w':=
 ⟨h.os,h.tape,h.output,h.size,fun x hx hn=>h.block x hx (fun e=>hn (by rw[←e];simp))⟩
theorem Trn.below {B:Nat} {w0:World} (hb:Below B w0 w) (h:Trn F w w') (hF: ∀ b ∈ F,B≤b) (hB:B≤w.heap.size):Below B w0 w':=
 hb.trans ⟨h.os,h.tape,h.output,h.size,fun k hk=>h.block k (by omega) (fun e=>by have:=hF k e;omega)⟩
theorem T.ow_trn {x:T} {cs:List Value} (h:T.ow w x F cs) (k:Trn G w w') (hd: ∀ b ∈ F,b ∉ G):T.ow w' x F cs:=
 T.ow_keep x F cs (fun b hb=>k.block b (T.ow_lt x F cs h b hb) (hd b hb)) h
theorem Bk.trn {g:Nat} {t:TypeId} {cs:Array Value} (h:Bk w g t cs) (k:Trn G w w') (hd:g ∉ G):Bk w' g t cs:=(k.block g h.lt hd).trans h
end
theorem yO {A B:List Nat} (h:(A++B).Nodup):B.Nodup:=(List.nodup_append.1 h).2.1
theorem nodup_dj {A B:List Nat} (h:(A++B).Nodup): ∀ b ∈ A,b ∉ B:=fun b h1 h2=>(List.nodup_append.1 h).2.2 b h1 b h2 rfl
end Go.Proofs.YtoibekfhepnedaaGreat
end
section
namespace Go.Proofs.YtoibekfhepnedaaGreat
open Go.RowKit
/-- A row of marks of the call's own. -/
def Tk (w:World) (B g n:Nat) (f:Nat→Bool):Prop:=w.ownsRow B 4 1 (.slice (some ⟨g,0,none⟩) n n) n ((List.range n).map fun i=> .bool (f i))
theorem Tk.cell {w:World} {B g n:Nat} {f:Nat→Bool} (h:Tk w B g n f) {i:Nat} (hi:i<n):w.cell? ⟨g,i,none⟩=some (.bool (f i)):=by
 rw[World.ownsRow.cellAt h i (by omega),List.getElem?_map,List.getElem?_range hi];rfl
theorem Tk.free {w:World} {B g n:Nat} {f:Nat→Bool} (h:Tk w B g n f) (i:Nat):w.frozen? ⟨g,i,none⟩=false:=World.ownsRow.frozenAt h i
theorem Tk.lt {w:World} {B g n:Nat} {f:Nat→Bool} (h:Tk w B g n f):g<w.heap.size:=(World.ownsRow.lt h g rfl).2
theorem Tk.all {w w':World} {B g n:Nat} {f:Nat→Bool} (h:Tk w B g n f) (hb:Below w.heap.size w w'):Tk w' B g n f:=own_all h hb
theorem Tk.grown {w w':World} {B g n:Nat} {f:Nat→Bool} {row:Option Nat} (h:Tk w B g n f) (hg:w.grownBy w' row) (hr:some g≠row):Tk w' B g n f:=
 ownsRow_keep (fun b hb=>by injection hb with hb;subst hb;exact hg.block _ h.lt hr) h
theorem Tk.set_ {w:World} {B g n:Nat} {f:Nat→Bool} (h:Tk w B g n f) (k:Nat):Tk (w.setCell ⟨g,k,none⟩ (.bool true)) B g n (fun i=>if i=k then true else f i):=by
 have:=(World.ownsRow.stored h k (.bool true)).1
 unfold Tk
 have e:((List.range n).map fun i=>Value.bool (f i)).set k (.bool true)=(List.range n).map fun i=>Value.bool (if i=k then true else f i):=by
  apply List.ext_getElem
  ·simp
  ·intro i h1 h2
   rw[List.getElem_set]
   by_cases e:k=i
   ·simp[e]
   ·have e': ¬ i=k:=fun h=>e h.symm
    simp[e,e']
 rw[e] at this
 exact this
theorem Tk.grown_set {w:World} {B g n:Nat} {f:Nat→Bool} (h:Tk w B g n f) (k:Nat):w.grownBy (w.setCell ⟨g,k,none⟩ (.bool true)) (some g):=(World.ownsRow.stored h k (.bool true)).2
theorem info_bool:(Tryz.prog.info? 4).map (fun i=>(i.zero,i.size,i.bytes))=some (some (.bool false),1,1):=by kernel_rfl
theorem Tk.made {w:World} {B g n:Nat} (h:w.ownsRow B 4 1 (.slice (some ⟨g,0,none⟩) n n) n (madeCells (Value.bool false).cells (n * 1)).toList):Tk w B g n fun _=>false:=by
 have e:(madeCells (Value.bool false).cells (n * 1)).toList=List.replicate n (Value.bool false):=by
  rw[Nat.mul_one];exact toList_madeCells_one _ n
 rw[e] at h
 unfold Tk
 have e2:(List.range n).map (fun i=>Value.bool false)=List.replicate n (Value.bool false):=by
  apply List.ext_getElem
  ·simp
  ·intro i h1 h2;simp
 rw[e2]
 exact h
theorem readyB_of {nodes:List GNode} {out:List Int} {k:Nat} {y:GNode} (h:nodes[k]?=some y):readyB nodes out k=(!decide ((k:Int) ∈ out) && (waitsF y).all fun f=>decide (f ∈ out)):=by
 unfold readyB
 rw[h]
 simp
theorem all_take_snoc {l:List Int} {out:List Int} {t:Nat} {f:Int} (h:l[t]?=some f):((l.take (t+1)).all fun f=>decide (f ∈ out))=((l.take t).all (fun f=>decide (f ∈ out)) && decide (f ∈ out)):=by
 rw[take_snoc_of h,List.all_append]
 simp
def lenV:Value→Nat
 | .slice _ n _=>n
 |_=>0
def fdN:Value→Nat
 | .bool true=>1
 |_=>0
theorem mark_snoc (l:List Int) (k:Nat):(fun i:Nat=>if i=k then true else decide ((i:Int) ∈ l))=fun i:Nat=>decide ((i:Int) ∈ l++ [(k:Int)]):=by
 funext i
 by_cases e:i=k
 ·subst e;simp
 ·have: ¬ (i:Int)=(k:Int):=by omega
  simp[e,this]
theorem waits_idx {y:GNode} {n:Int} (h:Idx y.zH n):Idx (waitsF y) n:=by
 unfold waitsF
 split
 ·intro i x hx;simp at hx
 ·exact h
theorem OwI.all {E:TypeId} {w w':World} {B:Nat} {v:Value} {xs:List Int} (h:OwI E w B v xs) (hb:Below w.heap.size w w'):OwI E w' B v xs:=h.below hb fun b hb'=>(h.lt b hb').2
theorem c_order (x:GPatch) (cs:List Value) (w:World) (hn:x.zB.length≤1048576) (hw:Each x.zB fun _ y=>Idx y.zH (x.zB.length:Int)) (h:T.rds w x.fs cs):Calls Tryz.prog 223 #[.agg cs.toArray] w fun e w'=> ∃ v,e= .returned v∧OwI 2 w' w.heap.size v (orderF x.zB)∧Below w.heap.size w w':=by
 obtain⟨v1,v2,v3,rfl,h1,h2,h3⟩:=GPatch.yN h
 clear h
 have R1:=hide h1;obtain⟨va1,vc1,rfl,vl1,vm1,vx1⟩:=T.yM h1
 have HX1:=hide vx1;clear vx1 h1
 have R2:=hide h2;obtain⟨va2,vc2,rfl,vl2,vm2,vx2⟩:=T.yM h2
 have HX2:=hide vx2;clear vx2 h2
 have h3i:=T.yR.1 h3;obtain⟨va3,vc3,rfl,vl3,vm3,vx3⟩:=h3i.open_
 have R3:=hide h3i;have HX3:=hide vx3;clear vx3 h3 h3i
 have HB0:=hide (show Below w.heap.size w (w.alloc (.cells #[.int .i64 x.zK,(.slice va1 x.zM.length vc1),(.slice va2 x.zB.length vc2),(.slice va3 x.zL.length vc3)] 108)) from(Below.refl _ _).alloc (Nat.le_refl _) _)
 have HK0:=hide (Bk.born w 108 #[.int .i64 x.zK,(.slice va1 x.zM.length vc1),(.slice va2 x.zB.length vc2),(.slice va3 x.zL.length vc3)])
 have HWF:=hide hw;clear hw
 obtain⟨i0,hi,hz0,hz1,hz2⟩:=info_parts info_bool
 go_enter Tryz.func223,Tryz.ntmps223
 go_wp2_with (at_make;refine wpList_make_full _ rfl _ _ _ rfl w.heap.size 4 i0 _ 1 Tryz.underlying293 hi hz0 hz1 .i64 .i64 _ _ x.zB.length rfl rfl rfl rfl (by rw[hz2];omega) (by unfold maxLen;omega) (by simp) ?_;intro w1 hown1 hg1)
 have e1:(w.alloc (.cells #[.int .i64 x.zK,(.slice va1 x.zM.length vc1),(.slice va2 x.zB.length vc2),(.slice va3 x.zL.length vc3)] 108)).heap.size=w.heap.size+1:=by simp
 rw[e1] at hown1
 have HT1:=hide (Tk.made hown1);have hz1':w.heap.size+2≤w1.heap.size:=by have:=HT1.out.lt;omega
 have HB1:=hide (HB0.out.grown hg1 (by rw[e1];omega) (by simp));have HK1:=hide (HK0.out.grown hg1 (by simp))
 clear hown1 hg1 e1 hi hz0 hz1 hz2 hz1'
 have hz1':w.heap.size+2≤w1.heap.size:=by have:=HT1.out.lt;omega
 go_loopw [4,5] (fun v fd wr=> ∃ (m:Nat) (b:Bool),fd= .bool b∧OwI 2 wr (w.heap.size+2) v (yY x.zB m)∧(yY x.zB m).length=m∧Tk wr w.heap.size (w.heap.size+1) x.zB.length (fun i=>decide ((i:Int) ∈ (yY x.zB m)))∧(b=false→nextF x.zB (yY x.zB m)=none)∧Bk wr w.heap.size 108 #[.int .i64 x.zK,(.slice va1 x.zM.length vc1),(.slice va2 x.zB.length vc2),(.slice va3 x.zL.length vc3)]∧Below w.heap.size w wr) (fun v fd _=>x.zB.length - lenV v+fdN fd)
 case atStart=>
  refine⟨0,true,rfl,(new_i64 w1).more hz1',rfl,?_,fun h=>absurd h (by simp),HK1.out.alloc _,HB1.out.alloc (by omega) _⟩
  have:=HT1.out.all ((Below.refl _ _).alloc (Nat.le_refl _) (.cells #[] 2))
  simpa[yY] using this
 case round=>
  obtain⟨m,b,rfl,ho,hlen,htk,hst,hbk,hbw⟩:=hrel
  obtain⟨A,cp,rfl,hcl,hcm,_⟩:=ho.rd.open_
  have HO:=hide ho;have HLEN:=hide hlen;have HTK:=hide htk;have HST:=hide hst;have HK:=hide hbk;have HB:=hide hbw;have hsz:=hbw.size;clear ho htk hst hbk hbw
  have ka:=HK.out.cell;have la:=HK.out.lt;have hcap:=ordNodes_cap (nodes:=x.zB) m
  cases b
  ·have HS2:=hide (HST.out rfl)
   have HE:=hide (orderF_of_stop HS2.out HLEN.out)
   clear hlen hcap
   go_wp2
   go_ret
   exact⟨_,rfl,by rw[HE.out];exact HO.out.more (by omega),HB.out⟩
  rw[hlen] at hcap hcl ⊢
  have HO':=hide (show OwI 2 wr (w.heap.size+2) (.slice A m cp) (yY x.zB m) by have:=HO.out;rwa [hlen] at this)
  clear hlen
  go_wp2
  clear ka la
  generalize wr=wo at *
  go_loopw [4,5,20] (fun v fd i wr=> ∃ k:Nat,k≤x.zB.length∧i= .int .i64 k∧v= .slice A m cp∧fd= .bool false∧(∀ j,j<k→readyB x.zB (yY x.zB m) j=false)∧Below wo.heap.size wo wr) (fun _ _ i _=>x.zB.length - (intOf i).toNat)
  case atStart=>exact⟨0,Nat.zero_le _,rfl,rfl,rfl,fun j h=>absurd h (by omega),Below.refl _ _⟩
  case round=>
   obtain⟨k,hk,rfl,rfl,rfl,hno,hbw⟩:=hrel
   have HNO:=hide hno;have HW:=hide hbw;have HB2:=hide (yI HB.out HB.out.size hbw);have HK2:=hide (HK.out.below hbw HK.out.lt);have HT2:=hide (HTK.out.all hbw);have HO2:=hide (HO'.out.all hbw);clear hno hbw
   have ka:=HK2.out.cell;have la:=HK2.out.lt;have lt:=HT2.out.lt
   by_cases hlt:k<x.zB.length
   rotate_left
   ·have hnone:=hide (nextF_none (nodes:=x.zB) (out:=(yY x.zB m)) (fun j hj=>HNO.out j (by omega)))
    go_wp2
    go_roundw
    case rel=>exact⟨m,false,rfl,HO2.out,HLEN.out,HT2.out,fun _=>hnone.out,HK2.out,HB2.out⟩
    case measure=>show x.zB.length - m+0<x.zB.length - m+1;omega
   have hgk:=List.getElem?_eq_getElem hlt
   obtain⟨b1,off,cs1,hA,hb1,hcs,hcell⟩:=HX2.out k x.zB[k] hgk
   subst hA
   generalize x.zB[k]=y at *
   have HG:=hide hgk;have HWY:=hide (HWF.out k y hgk);clear hgk
   obtain⟨u3,rfl,hRY3⟩:=GNode.yN (show T.rds _ _ _ by simpa only[GNode.t,T.rd] using hcs)
   have d0:=(HB2.out.cell hb1).trans (hcell 0 (.int .i64 y.zD) rfl)
   have d1:=(HB2.out.cell hb1).trans (hcell 1 (.int .i64 y.fA) rfl)
   have d2:=(HB2.out.cell hb1).trans (hcell 2 (.int .i64 y.fB) rfl)
   have d3:=(HB2.out.cell hb1).trans (hcell 3 (u3) rfl)
   rw[show off+(k * 4+0)=off+k * 4 by omega] at d0
   rw[show off+(k * 4+1)=off+k * 4+1 by omega] at d1
   rw[show off+(k * 4+2)=off+k * 4+2 by omega] at d2
   rw[show off+(k * 4+3)=off+k * 4+3 by omega] at d3
   have RY3:=hide (T.yE hRY3 HB2.out);clear hRY3
   clear hcs hcell
   have RY3i:=hide (T.yR.1 RY3.out);obtain⟨ua3,uc3,rfl,ul3,um3,ux3⟩:=RY3i.out.open_;clear ux3
   have hq1:b1<wr.heap.size:=Nat.lt_of_lt_of_le hb1 HB2.out.size
   have ct:=HT2.out.cell hlt
   have HRDY:=hide (readyB_of (out:=(yY x.zB m)) HG.out)
   generalize hk0:decide ((k:Int) ∈ (yY x.zB m))=kin at *
   clear hk0
   have HWY2:=hide (show Below wr.heap.size wr (wr.alloc (.cells #[.int .i64 y.zD,.int .i64 y.fA,.int .i64 y.fB,(.slice ua3 y.zH.length uc3)] 167)) from(Below.refl _ _).alloc (Nat.le_refl _) _)
   go_wp2_with fail
   refine(c_waitsFor y _ _ (GNode.rd_mk (T.yE RY3.out HWY2.out))).mono ?_;rintro e w4 ⟨u,rfl,hu,hb4⟩
   have HB4:=hide (yI HWY2.out HWY2.out.size hb4);clear hb4
   have HB5:=hide (yI HB2.out HB2.out.size HB4.out);have HK5:=hide (HK2.out.below HB4.out HK2.out.lt);have HT5:=hide (HT2.out.all HB4.out);have HO5:=hide (HO2.out.all HB4.out);have HW5:=hide (yI HW.out HW.out.size HB4.out)
   have HU:=hide hu
   obtain⟨ua,uc,rfl,hul,hum,hux⟩:=hu.open_
   have HUX:=hide hux;clear hux ka la lt ct d0 d1 d2 d3 hq1 hu
   go_wp2
   go_loopw [8,33] (fun r i ws=> ∃ t:Nat,t≤(waitsF y).length∧i= .int .i64 t∧r= .bool (!kin && ((waitsF y).take t).all fun f=>decide (f ∈ (yY x.zB m)))∧Below w4.heap.size w4 ws) (fun _ i _=>(waitsF y).length - (intOf i).toNat)
   case atStart=>exact⟨0,Nat.zero_le _,rfl,by simp,Below.refl _ _⟩
   case round=>
    obtain⟨t,ht,rfl,rfl,hbs⟩:=hrel
    have HW6:=hide hbs;have HB6:=hide (yI HB5.out HB5.out.size hbs);have HK6:=hide (HK5.out.below hbs HK5.out.lt);have HT6:=hide (HT5.out.all hbs);have HO6:=hide (HO5.out.all hbs);clear hbs
    have ka:=HK6.out.cell;have la:=HK6.out.lt;have lt:=HT6.out.lt
    generalize hgr:(!kin && ((waitsF y).take t).all fun f=>decide (f ∈ (yY x.zB m)))=r at *
    have HR:=hide hgr;clear hgr
    by_cases hltt:t<(waitsF y).length
    ·have hgt:=List.getElem?_eq_getElem hltt
     obtain⟨b3,off3,hA,hb3,hcf⟩:=HUX.out t (waitsF y)[t] hgt
     subst hA
     generalize (waitsF y)[t]=fv at *
     have HF:=hide hgt;clear hgt
     have hfr:=(waits_idx HWY.out) t fv HF.out
     obtain⟨fn,rfl⟩: ∃ fn:Nat,fv=(fn:Int):=⟨fv.toNat,by omega⟩
     have hfn:fn<x.zB.length:=by omega
     have cf:=(HW6.out.cell hb3).trans hcf;have hq3:b3<wr.heap.size:=Nat.lt_of_lt_of_le hb3 HW6.out.size
     have ct:=HT6.out.cell hfn
     have HSN:=hide (all_take_snoc (out:=(yY x.zB m)) HF.out)
     generalize hf0:decide ((fn:Int) ∈ (yY x.zB m))=fin at *
     clear hf0 hfr
     have n1:((fn:Int)<(x.zB.length:Int)):=by omega
     cases r
     ·go_wp2
      go_roundw
      case rel=>exact⟨t+1,by omega,by go_num,by rw[HSN.out,←Bool.and_assoc,HR.out];rfl,HW6.out⟩
      case measure=>simp[intOf];omega
     ·go_wp2
      go_roundw
      case rel=>exact⟨t+1,by omega,by go_num,by rw[HSN.out,←Bool.and_assoc,HR.out];rfl,HW6.out⟩
      case measure=>simp[intOf];omega
    have ht2:t=(waitsF y).length:=by omega
    have HRD:=hide (show readyB x.zB (yY x.zB m) k=r by rw[HRDY.out,←HR.out,ht2,List.take_length])
    clear ht2
    cases r
    ·go_wp2
     go_roundw
     case rel=>exact⟨k+1,by omega,by go_num,rfl,rfl,fun j hj=>by
    by_cases e:j=k
    ·subst e;exact HRD.out
    ·exact HNO.out j (by omega),yI HW5.out HW5.out.size HW6.out⟩
     case measure=>simp[intOf];omega
    have HNX:=hide (nextF_some hlt HRD.out HNO.out)
    have fr:=HT6.out.free k;have ck:=HT6.out.cell hlt
    have n2:((k:Int)<(x.zB.length:Int)):=by omega
    have HT7:=hide (show Tk (wr.setCell ⟨w.heap.size+1,k,none⟩ (.bool true)) w.heap.size (w.heap.size+1) x.zB.length (fun i=>decide ((i:Int) ∈ (yY x.zB m)++ [(k:Int)])) by have:=HT6.out.set_ k;rw[mark_snoc] at this;exact this);have HG7:=hide (HT6.out.grown_set k)
    have HO7:=hide (HO6.out.far (p:=⟨w.heap.size+1,k,none⟩) (fun b hb=>by have:=(HO6.out.lt b hb).1;simp only;omega) (.bool true))
    have HK7:=hide (HK6.out.far (p:=⟨w.heap.size+1,k,none⟩) (by simp only;omega) (.bool true))
    have HB7:=hide (HB6.out.grown HG7.out HB6.out.size (fun j hj=>by injection hj with hj;omega));have hs7:=HB7.out.size;have hz7:=HG7.out.size
    have hbb:w.heap.size+2≤(wr.setCell ⟨w.heap.size+1,k,none⟩ (.bool true)).heap.size:=by omega
    have hll:(yY x.zB m).length+1≤17592186044416:=by rw[HLEN.out];omega
    have hsz7:(wr.setCell ⟨w.heap.size+1,k,none⟩ (.bool true)).heap.size=wr.heap.size:=by simp[World.setCell]
    go_wp2_with (at_builtin;refine app1_i64 (n:=(k:Int)) rfl _ _ rfl rfl HO7.out (by show Value.slice (some ⟨wr.heap.size,0,none⟩) 1 1=_;rw[hsz7]) hll hbb ?_;intro v8 w8 ho8 hg8 hv8;have HO8:=hide ho8;have HG8:=hide hg8;clear ho8 hg8 hv8)
    have HB8:=hide (HB7.out.grown HG8.out (by omega) (fun j hj=>by have:=(HO7.out.lt j hj).1;omega))
    have HT8:=hide (HT7.out.grown HG8.out (fun e=>by have:=(HO7.out.lt _ e.symm).1;omega))
    have HK8:=hide (HK7.out.grown HG8.out (fun e=>by have:=(HO7.out.lt _ e.symm).1;omega))
    have HSN:=hide (ordNodes_snoc HNX.out)
    have HL8:=hide (show (yY x.zB (m+1)).length=m+1 by rw[HSN.out,List.length_append,HLEN.out];rfl)
    have hc8:=ordNodes_cap (nodes:=x.zB) (m+1)
    rw[HL8.out] at hc8
    obtain⟨A8,c8,rfl,_,_,_⟩:=HO8.out.rd.open_
    have HO9:=hide (show OwI 2 w8 (w.heap.size+2) (.slice A8 (m+1) c8) (yY x.zB (m+1)) by have:=HO8.out;rw[HSN.out];simpa[HLEN.out] using this)
    rw[show (yY x.zB m++ [(k:Int)]).length=m+1 by rw[←HSN.out];exact HL8.out]
    clear HO8 fr ck
    go_wp2
    go_roundw
    case rel=>
     refine⟨m+1,true,rfl,HO9.out,HL8.out,?_,fun h=>absurd h (by simp),HK8.out,HB8.out⟩
     have:=HT8.out
     rw[HSN.out]
     exact this
    case measure=>show x.zB.length - (m+1)+1<x.zB.length - m+1;omega
end Go.Proofs.YtoibekfhepnedaaGreat
end
