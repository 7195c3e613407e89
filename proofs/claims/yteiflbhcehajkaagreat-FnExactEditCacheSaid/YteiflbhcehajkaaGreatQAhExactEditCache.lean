/- Contracts: what is valid, by the program: well formed patches. Laws for data that is marked cell by cell. No program is named here. -/
import Derived.Test.YteiflbhcehajkaaGreatQAgExactEditCache
import Derived.Test.YteiflbhcehajkaaGreatQAfExactEditCache
set_option linter.unusedVariables false
set_option linter.unusedSimpArgs false
set_option maxHeartbeats 2000000
set_option maxRecDepth 20000
section
namespace Go.Proofs.YteiflbhcehajkaaGreat
open Go.RowKit
theorem c_waitsFor (x:GNode) (cs:List Value) (w:World) (h:T.rds w x.fs cs):Calls Tryz.prog 232 #[.agg cs.toArray] w fun e w'=> ∃ u,e= .returned u∧RdI w' u (waitsF x)∧Below w.heap.size w w':=by
 obtain⟨v3,rfl,h3⟩:=GNode.yL h
 clear h
 have h3i:=T.yQ.1 h3;obtain⟨va3,vc3,rfl,vl3,vm3,vx3⟩:=h3i.open_
 have R3:=hide h3i;have HX3:=hide vx3;clear vx3 h3 h3i
 have HB0:=hide (show Below w.heap.size w (w.alloc (.cells #[.int .i64 x.zC,.int .i64 x.fA,.int .i64 x.fB,(.slice va3 x.zI.length vc3)] 198)) from(Below.refl _ _).alloc (Nat.le_refl _) _)
 have HK0:=hide (Bk.born w 198 #[.int .i64 x.zC,.int .i64 x.fA,.int .i64 x.fB,(.slice va3 x.zI.length vc3)])
 have HR:=hide (RdI.below R3.out HB0.out)
 by_cases h6:x.zC=6
 ·have h6':(x.zC == 6)=true:=yP h6;have H6:=hide h6;clear h6
  go_enter Tryz.func232,Tryz.ntmps232
  go_wp2
  go_ret
  exact⟨_,rfl,by unfold waitsF;rw[if_pos H6.out];exact Rd.nil_ _ _,HB0.out⟩
 ·have h6':(x.zC == 6)=false:=yO h6;have H6:=hide h6;clear h6
  go_enter Tryz.func232,Tryz.ntmps232
  go_wp2
  go_ret
  exact⟨_,rfl,by unfold waitsF;rw[if_neg H6.out];exact HR.out,HB0.out⟩
theorem c_isWellFormed (x:GPatch) (cs:List Value) (w:World) (h:T.rds w x.fs cs):Calls Tryz.prog 200 #[.agg cs.toArray] w fun e w'=>e= .returned (.bool (tf (FormedOk x)))∧Below w.heap.size w w':=by
 obtain⟨v1,v2,v3,rfl,h1,h2,h3⟩:=GPatch.yL h
 clear h
 have R1:=hide h1;obtain⟨va1,vc1,rfl,vl1,vm1,vx1⟩:=T.yK h1
 have HX1:=hide vx1;clear vx1 h1
 have R2:=hide h2;obtain⟨va2,vc2,rfl,vl2,vm2,vx2⟩:=T.yK h2
 have HX2:=hide vx2;clear vx2 h2
 have h3i:=T.yQ.1 h3;obtain⟨va3,vc3,rfl,vl3,vm3,vx3⟩:=h3i.open_
 have R3:=hide h3i;have HX3:=hide vx3;clear vx3 h3 h3i
 have HB0:=hide (show Below w.heap.size w (w.alloc (.cells #[.int .i64 x.zM,(.slice va1 x.zR.length vc1),(.slice va2 x.zH.length vc2),(.slice va3 x.zN.length vc3)] 130)) from(Below.refl _ _).alloc (Nat.le_refl _) _)
 have HK0:=hide (Bk.born w 130 #[.int .i64 x.zM,(.slice va1 x.zR.length vc1),(.slice va2 x.zH.length vc2),(.slice va3 x.zN.length vc3)])
 go_enter Tryz.func200,Tryz.ntmps200
 by_cases q1:inB x.zM 0 4=true
 rotate_left
 ·have q1':inB x.zM 0 4=false:=(by simpa using q1)
  go_wp2_with (first|(go_at_call 84;refine(c_within _ _ _ _).mono ?_;rintro e w' ⟨rfl,rfl⟩)|(go_at_call 221;refine(c_sizeNode _ _ _ _ (by omega)).mono ?_;rintro e w' ⟨rfl,rfl⟩)|(go_at_call 230;refine(c_areTables _ x.zR _ (T.yC R1.out HB0.out)).mono ?_;rintro e w' ⟨rfl,rfl⟩;rw[a2])|(go_at_call 66;refine(c_size _ x.zN _ (Rd.below R3.out HB0.out)).mono ?_;rintro e w' ⟨rfl,rfl⟩)|(go_at_call 68;refine(c_areIndices _ x.zN _ _ (Rd.below R3.out HB0.out) (by omega) (by omega)).mono ?_;rintro e w' ⟨rfl,rfl⟩;rw[a5]))
  go_ret
  exact⟨yF (yV fun h=>q1 h.inputs).symm,HB0.out⟩
 skip
 by_cases q2:TablesOk x.zR
 rotate_left
 ·have a2:=yV q2;have Q2:=hide q2;clear q2
  go_wp2_with (first|(go_at_call 84;refine(c_within _ _ _ _).mono ?_;rintro e w' ⟨rfl,rfl⟩)|(go_at_call 221;refine(c_sizeNode _ _ _ _ (by omega)).mono ?_;rintro e w' ⟨rfl,rfl⟩)|(go_at_call 230;refine(c_areTables _ x.zR _ (T.yC R1.out HB0.out)).mono ?_;rintro e w' ⟨rfl,rfl⟩;rw[a2])|(go_at_call 66;refine(c_size _ x.zN _ (Rd.below R3.out HB0.out)).mono ?_;rintro e w' ⟨rfl,rfl⟩)|(go_at_call 68;refine(c_areIndices _ x.zN _ _ (Rd.below R3.out HB0.out) (by omega) (by omega)).mono ?_;rintro e w' ⟨rfl,rfl⟩;rw[a5]))
  go_ret
  exact⟨yF (yV fun h=>Q2.out h.tables).symm,HB0.out⟩
 have a2:=yW q2;have Q2:=hide q2;clear q2
 by_cases q3:x.zH.length≤24
 rotate_left
 ·have Q3:=hide q3
  go_wp2_with (first|(go_at_call 84;refine(c_within _ _ _ _).mono ?_;rintro e w' ⟨rfl,rfl⟩)|(go_at_call 221;refine(c_sizeNode _ _ _ _ (by omega)).mono ?_;rintro e w' ⟨rfl,rfl⟩)|(go_at_call 230;refine(c_areTables _ x.zR _ (T.yC R1.out HB0.out)).mono ?_;rintro e w' ⟨rfl,rfl⟩;rw[a2])|(go_at_call 66;refine(c_size _ x.zN _ (Rd.below R3.out HB0.out)).mono ?_;rintro e w' ⟨rfl,rfl⟩)|(go_at_call 68;refine(c_areIndices _ x.zN _ _ (Rd.below R3.out HB0.out) (by omega) (by omega)).mono ?_;rintro e w' ⟨rfl,rfl⟩;rw[a5]))
  go_ret
  exact⟨yF (yV fun h=>q3 h.few).symm,HB0.out⟩
 have Q3:=hide q3
 by_cases q4:x.zN.length≤4
 rotate_left
 ·have Q4:=hide q4
  go_wp2_with (first|(go_at_call 84;refine(c_within _ _ _ _).mono ?_;rintro e w' ⟨rfl,rfl⟩)|(go_at_call 221;refine(c_sizeNode _ _ _ _ (by omega)).mono ?_;rintro e w' ⟨rfl,rfl⟩)|(go_at_call 230;refine(c_areTables _ x.zR _ (T.yC R1.out HB0.out)).mono ?_;rintro e w' ⟨rfl,rfl⟩;rw[a2])|(go_at_call 66;refine(c_size _ x.zN _ (Rd.below R3.out HB0.out)).mono ?_;rintro e w' ⟨rfl,rfl⟩)|(go_at_call 68;refine(c_areIndices _ x.zN _ _ (Rd.below R3.out HB0.out) (by omega) (by omega)).mono ?_;rintro e w' ⟨rfl,rfl⟩;rw[a5]))
  go_ret
  exact⟨yF (yV fun h=>q4 h.outs).symm,HB0.out⟩
 have Q4:=hide q4
 by_cases q5:Idx x.zN (x.zH.length:Int)
 rotate_left
 ·have a5:=yV q5;have Q5:=hide q5;clear q5
  go_wp2_with (first|(go_at_call 84;refine(c_within _ _ _ _).mono ?_;rintro e w' ⟨rfl,rfl⟩)|(go_at_call 221;refine(c_sizeNode _ _ _ _ (by omega)).mono ?_;rintro e w' ⟨rfl,rfl⟩)|(go_at_call 230;refine(c_areTables _ x.zR _ (T.yC R1.out HB0.out)).mono ?_;rintro e w' ⟨rfl,rfl⟩;rw[a2])|(go_at_call 66;refine(c_size _ x.zN _ (Rd.below R3.out HB0.out)).mono ?_;rintro e w' ⟨rfl,rfl⟩)|(go_at_call 68;refine(c_areIndices _ x.zN _ _ (Rd.below R3.out HB0.out) (by omega) (by omega)).mono ?_;rintro e w' ⟨rfl,rfl⟩;rw[a5]))
  go_ret
  exact⟨yF (yV fun h=>Q5.out h.outputs).symm,HB0.out⟩
 have a5:=yW q5;have Q5:=hide q5;clear q5
 go_wp2_with (first|(go_at_call 84;refine(c_within _ _ _ _).mono ?_;rintro e w' ⟨rfl,rfl⟩)|(go_at_call 221;refine(c_sizeNode _ _ _ _ (by omega)).mono ?_;rintro e w' ⟨rfl,rfl⟩)|(go_at_call 230;refine(c_areTables _ x.zR _ (T.yC R1.out HB0.out)).mono ?_;rintro e w' ⟨rfl,rfl⟩;rw[a2])|(go_at_call 66;refine(c_size _ x.zN _ (Rd.below R3.out HB0.out)).mono ?_;rintro e w' ⟨rfl,rfl⟩)|(go_at_call 68;refine(c_areIndices _ x.zN _ _ (Rd.below R3.out HB0.out) (by omega) (by omega)).mono ?_;rintro e w' ⟨rfl,rfl⟩;rw[a5]))
 clear a2 a5
 go_loopw [39] (fun i wr=> ∃ k:Nat,k≤x.zH.length∧i= .int .i64 k∧Upto x.zH (fun _ x_1=>NodeOk x_1 (x.zR.length:Int)∧Idx x_1.zI (x.zH.length:Int)∧(x_1.zC=1→x_1.fA<x.zM)) k∧Below (w.alloc (.cells #[.int .i64 x.zM,(.slice va1 x.zR.length vc1),(.slice va2 x.zH.length vc2),(.slice va3 x.zN.length vc3)] 130)).heap.size (w.alloc (.cells #[.int .i64 x.zM,(.slice va1 x.zR.length vc1),(.slice va2 x.zH.length vc2),(.slice va3 x.zN.length vc3)] 130)) wr) (fun i _=>x.zH.length - (intOf i).toNat)
 case atStart=>exact⟨0,Nat.zero_le _,rfl,Upto.zero,Below.refl _ _⟩
 case round=>
  obtain⟨k,hk,rfl,hs,hbw⟩:=hrel
  have HS:=hide hs;have HW:=hide hbw;have HB:=hide (yG HB0.out HB0.out.size hbw);have HK:=hide (HK0.out.below hbw HK0.out.lt);clear hs hbw
  have ka:=HK.out.cell;have la:=HK.out.lt
  by_cases hlt:k<x.zH.length
  rotate_left
  ·have hall:=hide (HS.out.all (by omega));clear HS
   go_wp2
   go_ret
   exact⟨yF (yW ⟨q1,Q2.out,Q3.out,Q4.out,Q5.out,hall.out⟩).symm,HB.out⟩
  have hgk:=List.getElem?_eq_getElem hlt
  obtain⟨b1,off,cs1,hA,hb1,hcs,hcell⟩:=HX2.out k x.zH[k] hgk
  subst hA
  generalize x.zH[k]=y at *
  have HG:=hide hgk;clear hgk
  obtain⟨u3,rfl,hRY3⟩:=GNode.yL (show T.rds _ _ _ by simpa only[GNode.t,T.rd] using hcs)
  have d0:=(HB.out.cell hb1).trans (hcell 0 (.int .i64 y.zC) rfl)
  have d1:=(HB.out.cell hb1).trans (hcell 1 (.int .i64 y.fA) rfl)
  have d2:=(HB.out.cell hb1).trans (hcell 2 (.int .i64 y.fB) rfl)
  have d3:=(HB.out.cell hb1).trans (hcell 3 (u3) rfl)
  rw[show off+(k * 4+0)=off+k * 4 by omega] at d0
  rw[show off+(k * 4+1)=off+k * 4+1 by omega] at d1
  rw[show off+(k * 4+2)=off+k * 4+2 by omega] at d2
  rw[show off+(k * 4+3)=off+k * 4+3 by omega] at d3
  have RY3:=hide (T.yC hRY3 HB.out);clear hRY3
  clear hcs hcell
  have RY3i:=hide (T.yQ.1 RY3.out);obtain⟨ua3,uc3,rfl,ul3,um3,ux3⟩:=RY3i.out.open_;clear ux3
  have hq1:b1<wr.heap.size:=Nat.lt_of_lt_of_le hb1 HB.out.size
  by_cases p1:NodeOk y (x.zR.length:Int)
  rotate_left
  ·have b1':=yV p1;have P1:=hide p1;clear p1
   have hWb:Below wr.heap.size wr (wr.alloc (.cells #[.int .i64 y.zC,.int .i64 y.fA,.int .i64 y.fB,(.slice ua3 y.zI.length uc3)] 198)):=(Below.refl _ _).alloc (Nat.le_refl _) _
   have hNb:=Bk.born wr 198 #[.int .i64 y.zC,.int .i64 y.fA,.int .i64 y.fB,(.slice ua3 y.zI.length uc3)]
   go_wp2
   generalize wr.alloc (.cells #[.int .i64 y.zC,.int .i64 y.fA,.int .i64 y.fB,(.slice ua3 y.zI.length uc3)] 198)=W at *
   have HWb:=hide hWb;have HNb:=hide hNb;have HKW:=hide (HK.out.below hWb HK.out.lt)
   have g0:=xA hNb;have g1:=xA HKW.out
   clear hWb hNb
   refine yZ (by kernel_rfl) (by kernel_rfl) ?_
   repeat(first|go_big_quiet_skip|(go_big_quiet_want;go_big_quiet_op;first|go_big_quiet_on|(apply Exists.intro;refine⟨fun _=>?_,?_⟩;(· (first|(go_at_call 90;exact Calls.yH (c_sizeLL _ _ _ _ (by omega)))|(go_at_call 231;exact Calls.yI ((c_isNode y _ _ _ (GNode.rd_mk (T.yC RY3.out (yG HWb.out HWb.out.size (yE W _))))).mono (fun e w' h=>by rw[b1'] at h;exact h)))|(go_at_call 68;exact Calls.yH ((c_areIndices _ y.zI _ _ (Rd.below RY3i.out (yG HWb.out HWb.out.size (yE W _))) (by omega) (by omega)).mono (fun e w' h=>by rw[b2'] at h;exact h)))));go_big_quiet_on)))
   refine wpQuiet_nil ?_
   rintro w9 ⟨uu,rfl⟩
   have hb9:=yE W uu
   generalize bel W uu=w9 at *
   have HC:=hide (yG HWb.out HWb.out.size hb9);have HC2:=hide (yG HB.out HB.out.size HC.out);have HC3:=hide (yG HW.out HW.out.size HC.out)
   clear hb9 g0 g1
   go_wp2
   go_ret
   exact⟨yF (yV fun h=>P1.out (h.nodes k y HG.out).1).symm,HC2.out⟩
  have b1':=yW p1;have P1:=hide p1;clear p1
  by_cases p2:Idx y.zI (x.zH.length:Int)
  rotate_left
  ·have b2':=yV p2;have P2:=hide p2;clear p2
   have hWb:Below wr.heap.size wr (wr.alloc (.cells #[.int .i64 y.zC,.int .i64 y.fA,.int .i64 y.fB,(.slice ua3 y.zI.length uc3)] 198)):=(Below.refl _ _).alloc (Nat.le_refl _) _
   have hNb:=Bk.born wr 198 #[.int .i64 y.zC,.int .i64 y.fA,.int .i64 y.fB,(.slice ua3 y.zI.length uc3)]
   go_wp2
   generalize wr.alloc (.cells #[.int .i64 y.zC,.int .i64 y.fA,.int .i64 y.fB,(.slice ua3 y.zI.length uc3)] 198)=W at *
   have HWb:=hide hWb;have HNb:=hide hNb;have HKW:=hide (HK.out.below hWb HK.out.lt)
   have g0:=xA hNb;have g1:=xA HKW.out
   clear hWb hNb
   refine yZ (by kernel_rfl) (by kernel_rfl) ?_
   repeat(first|go_big_quiet_skip|(go_big_quiet_want;go_big_quiet_op;first|go_big_quiet_on|(apply Exists.intro;refine⟨fun _=>?_,?_⟩;(· (first|(go_at_call 90;exact Calls.yH (c_sizeLL _ _ _ _ (by omega)))|(go_at_call 231;exact Calls.yI ((c_isNode y _ _ _ (GNode.rd_mk (T.yC RY3.out (yG HWb.out HWb.out.size (yE W _))))).mono (fun e w' h=>by rw[b1'] at h;exact h)))|(go_at_call 68;exact Calls.yH ((c_areIndices _ y.zI _ _ (Rd.below RY3i.out (yG HWb.out HWb.out.size (yE W _))) (by omega) (by omega)).mono (fun e w' h=>by rw[b2'] at h;exact h)))));go_big_quiet_on)))
   refine wpQuiet_nil ?_
   rintro w9 ⟨uu,rfl⟩
   have hb9:=yE W uu
   generalize bel W uu=w9 at *
   have HC:=hide (yG HWb.out HWb.out.size hb9);have HC2:=hide (yG HB.out HB.out.size HC.out);have HC3:=hide (yG HW.out HW.out.size HC.out)
   clear hb9 g0 g1
   go_wp2
   go_ret
   exact⟨yF (yV fun h=>P2.out (h.nodes k y HG.out).2.1).symm,HC2.out⟩
  have b2':=yW p2;have P2:=hide p2;clear p2
  by_cases p3:y.zC=1
  rotate_left
  ·have p3':(y.zC == 1)=false:=yO p3;have P3:=hide p3;clear p3
   have hWb:Below wr.heap.size wr (wr.alloc (.cells #[.int .i64 y.zC,.int .i64 y.fA,.int .i64 y.fB,(.slice ua3 y.zI.length uc3)] 198)):=(Below.refl _ _).alloc (Nat.le_refl _) _
   have hNb:=Bk.born wr 198 #[.int .i64 y.zC,.int .i64 y.fA,.int .i64 y.fB,(.slice ua3 y.zI.length uc3)]
   go_wp2
   generalize wr.alloc (.cells #[.int .i64 y.zC,.int .i64 y.fA,.int .i64 y.fB,(.slice ua3 y.zI.length uc3)] 198)=W at *
   have HWb:=hide hWb;have HNb:=hide hNb;have HKW:=hide (HK.out.below hWb HK.out.lt)
   have g0:=xA hNb;have g1:=xA HKW.out
   clear hWb hNb
   refine yZ (by kernel_rfl) (by kernel_rfl) ?_
   repeat(first|go_big_quiet_skip|(go_big_quiet_want;go_big_quiet_op;first|go_big_quiet_on|(apply Exists.intro;refine⟨fun _=>?_,?_⟩;(· (first|(go_at_call 90;exact Calls.yH (c_sizeLL _ _ _ _ (by omega)))|(go_at_call 231;exact Calls.yI ((c_isNode y _ _ _ (GNode.rd_mk (T.yC RY3.out (yG HWb.out HWb.out.size (yE W _))))).mono (fun e w' h=>by rw[b1'] at h;exact h)))|(go_at_call 68;exact Calls.yH ((c_areIndices _ y.zI _ _ (Rd.below RY3i.out (yG HWb.out HWb.out.size (yE W _))) (by omega) (by omega)).mono (fun e w' h=>by rw[b2'] at h;exact h)))));go_big_quiet_on)))
   refine wpQuiet_nil ?_
   rintro w9 ⟨uu,rfl⟩
   have hb9:=yE W uu
   generalize bel W uu=w9 at *
   have HC:=hide (yG HWb.out HWb.out.size hb9);have HC2:=hide (yG HB.out HB.out.size HC.out);have HC3:=hide (yG HW.out HW.out.size HC.out)
   clear hb9 g0 g1
   go_wp2
   go_roundw
   case rel=>exact⟨k+1,by omega,by go_num,HS.out.step HG.out ⟨P1.out,P2.out,fun h=>absurd h P3.out⟩,HC3.out⟩
   case measure=>simp[intOf];omega
  have p3':(y.zC == 1)=true:=yP p3;have P3:=hide p3;clear p3
  by_cases p4:x.zM≤y.fA
  ·have p4':decide (x.zM≤y.fA)=true:=decide_eq_true p4;have P4:=hide p4
   have hWb:Below wr.heap.size wr (wr.alloc (.cells #[.int .i64 y.zC,.int .i64 y.fA,.int .i64 y.fB,(.slice ua3 y.zI.length uc3)] 198)):=(Below.refl _ _).alloc (Nat.le_refl _) _
   have hNb:=Bk.born wr 198 #[.int .i64 y.zC,.int .i64 y.fA,.int .i64 y.fB,(.slice ua3 y.zI.length uc3)]
   go_wp2
   generalize wr.alloc (.cells #[.int .i64 y.zC,.int .i64 y.fA,.int .i64 y.fB,(.slice ua3 y.zI.length uc3)] 198)=W at *
   have HWb:=hide hWb;have HNb:=hide hNb;have HKW:=hide (HK.out.below hWb HK.out.lt)
   have g0:=xA hNb;have g1:=xA HKW.out
   clear hWb hNb
   refine yZ (by kernel_rfl) (by kernel_rfl) ?_
   repeat(first|go_big_quiet_skip|(go_big_quiet_want;go_big_quiet_op;first|go_big_quiet_on|(apply Exists.intro;refine⟨fun _=>?_,?_⟩;(· (first|(go_at_call 90;exact Calls.yH (c_sizeLL _ _ _ _ (by omega)))|(go_at_call 231;exact Calls.yI ((c_isNode y _ _ _ (GNode.rd_mk (T.yC RY3.out (yG HWb.out HWb.out.size (yE W _))))).mono (fun e w' h=>by rw[b1'] at h;exact h)))|(go_at_call 68;exact Calls.yH ((c_areIndices _ y.zI _ _ (Rd.below RY3i.out (yG HWb.out HWb.out.size (yE W _))) (by omega) (by omega)).mono (fun e w' h=>by rw[b2'] at h;exact h)))));go_big_quiet_on)))
   refine wpQuiet_nil ?_
   rintro w9 ⟨uu,rfl⟩
   have hb9:=yE W uu
   generalize bel W uu=w9 at *
   have HC:=hide (yG HWb.out HWb.out.size hb9);have HC2:=hide (yG HB.out HB.out.size HC.out);have HC3:=hide (yG HW.out HW.out.size HC.out)
   clear hb9 g0 g1
   go_wp2
   go_ret
   exact⟨yF (yV fun h=>by have:=(h.nodes k y HG.out).2.2 P3.out;have:=P4.out;omega).symm,HC2.out⟩
  have p4':decide (x.zM≤y.fA)=false:=decide_eq_false p4;have P4:=hide p4
  have hWb:Below wr.heap.size wr (wr.alloc (.cells #[.int .i64 y.zC,.int .i64 y.fA,.int .i64 y.fB,(.slice ua3 y.zI.length uc3)] 198)):=(Below.refl _ _).alloc (Nat.le_refl _) _
  have hNb:=Bk.born wr 198 #[.int .i64 y.zC,.int .i64 y.fA,.int .i64 y.fB,(.slice ua3 y.zI.length uc3)]
  go_wp2
  generalize wr.alloc (.cells #[.int .i64 y.zC,.int .i64 y.fA,.int .i64 y.fB,(.slice ua3 y.zI.length uc3)] 198)=W at *
  have HWb:=hide hWb;have HNb:=hide hNb;have HKW:=hide (HK.out.below hWb HK.out.lt)
  have g0:=xA hNb;have g1:=xA HKW.out
  clear hWb hNb
  refine yZ (by kernel_rfl) (by kernel_rfl) ?_
  repeat(first|go_big_quiet_skip|(go_big_quiet_want;go_big_quiet_op;first|go_big_quiet_on|(apply Exists.intro;refine⟨fun _=>?_,?_⟩;(· (first|(go_at_call 90;exact Calls.yH (c_sizeLL _ _ _ _ (by omega)))|(go_at_call 231;exact Calls.yI ((c_isNode y _ _ _ (GNode.rd_mk (T.yC RY3.out (yG HWb.out HWb.out.size (yE W _))))).mono (fun e w' h=>by rw[b1'] at h;exact h)))|(go_at_call 68;exact Calls.yH ((c_areIndices _ y.zI _ _ (Rd.below RY3i.out (yG HWb.out HWb.out.size (yE W _))) (by omega) (by omega)).mono (fun e w' h=>by rw[b2'] at h;exact h)))));go_big_quiet_on)))
  refine wpQuiet_nil ?_
  rintro w9 ⟨uu,rfl⟩
  have hb9:=yE W uu
  generalize bel W uu=w9 at *
  have HC:=hide (yG HWb.out HWb.out.size hb9);have HC2:=hide (yG HB.out HB.out.size HC.out);have HC3:=hide (yG HW.out HW.out.size HC.out)
  clear hb9 g0 g1
  go_wp2
  go_roundw
  case rel=>exact⟨k+1,by omega,by go_num,HS.out.step HG.out ⟨P1.out,P2.out,fun _=>by have:=P4.out;omega⟩,HC3.out⟩
  case measure=>simp[intOf];omega
end Go.Proofs.YteiflbhcehajkaaGreat
end
section
namespace Go.Proofs.YteiflbhcehajkaaGreat
open Go.RowKit
def cntL {α:Type} (c:α→Nat):List α→Nat
 | []=>0
 |x :: r=>c x+cntL c r
def mkL {α:Type} (m:α→Nat→α) (c:α→Nat):List α→Nat→List α
 | [],_=> []
 |x :: r,k=>m x k :: mkL m c r (k+c x)
section
variable {α:Type} {m:α→Nat→α} {c:α→Nat}
theorem length_mkL: ∀ (xs:List α) (k:Nat),(mkL m c xs k).length=xs.length
 | [],_=>rfl
 |x :: r,k=>by simp[mkL,length_mkL r]
theorem cntL_snoc: ∀ (xs:List α) (x:α),cntL c (xs++ [x])=cntL c xs+c x
 | [],x=>by simp[cntL]
 |y :: r,x=>by simp only[List.cons_append,cntL,cntL_snoc r];omega
theorem mkL_snoc: ∀ (xs:List α) (x:α) (k:Nat),mkL m c (xs++ [x]) k=mkL m c xs k++ [m x (k+cntL c xs)]
 | [],x,k=>by simp[mkL,cntL]
 |y :: r,x,k=>by simp only[List.cons_append,mkL,cntL,mkL_snoc r];rw[Nat.add_assoc]
theorem cntL_take {xs:List α} {i:Nat} {x:α} (h:xs[i]?=some x):cntL c (xs.take (i+1))=cntL c (xs.take i)+c x:=by rw[take_snoc_of h,cntL_snoc]
theorem mkL_take {xs:List α} {i k:Nat} {x:α} (h:xs[i]?=some x):mkL m c (xs.take (i+1)) k=mkL m c (xs.take i) k++ [m x (k+cntL c (xs.take i))]:=by rw[take_snoc_of h,mkL_snoc]
theorem cntL_le: ∀ (xs:List α) (i:Nat),cntL c (xs.take i)≤cntL c xs
 | [],i=>by simp[cntL]
 |x :: r,0=>by simp[cntL]
 |x :: r,i+1=>by simp only[List.take_succ_cons,cntL];have:=cntL_le r i;omega
theorem mkL_at: ∀ {xs:List α} {i k:Nat} {x:α},xs[i]?=some x→(mkL m c xs k)[i]?=some (m x (k+cntL c (xs.take i)))
 | [],_,_,_,h=>by simp at h
 |y :: r,0,k,x,h=>by simp at h;subst h;simp[mkL,cntL]
 |y :: r,i+1,k,x,h=>by
  have:=mkL_at (xs:=r) (i:=i) (k:=k+c y) (x:=x) (by simpa using h)
  simp only[mkL,List.getElem?_cons_succ,List.take_succ_cons,cntL]
  rw[this,Nat.add_assoc]
end
section
variable {w w' a b:World} {F G:List Nat}
theorem Trn.refl (F:List Nat) (w:World):Trn F w w:=⟨rfl,rfl,rfl,Nat.le_refl _,fun _ _ _=>rfl⟩
theorem Trn.trans (h:Trn F w a) (k:Trn F a b):Trn F w b:=
 ⟨k.os.trans h.os,k.tape.trans h.tape,k.output.trans h.output,Nat.le_trans h.size k.size,fun x hx hn=>(k.block x (Nat.lt_of_lt_of_le hx h.size) hn).trans (h.block x hx hn)⟩
theorem Trn.mono (h:Trn F w w') (hs: ∀ b ∈ F,b ∈ G):Trn G w w':=⟨h.os,h.tape,h.output,h.size,fun x hx hn=>h.block x hx (fun e=>hn (hs x e))⟩
theorem Trn.of_below (h:Below w.heap.size w w'):Trn F w w':=⟨h.os,h.tape,h.output,h.size,fun x hx _=>h.block x hx⟩
theorem Trn.set_ {g:Nat} (hg:g ∈ F) (o:Nat) (u:Value):Trn F w (w.setCell ⟨g,o,none⟩ u):=
 ⟨rfl,rfl,rfl,by simp[World.setCell],fun x _ hn=>Below.heap_setCell w _ u x (fun e=>hn (by rw[show x=g from e];exact hg))⟩
theorem Trn.alloc (o:Obj):Trn F w (w.alloc o):=Trn.of_below ((Below.refl _ _).alloc (Nat.le_refl _) o)
theorem Trn.of_grown {v:Value} (h:w.grownBy w' v.ownBlock):Trn v.ownBlock.toList w w':=
 ⟨h.os,h.tape,h.output,h.size,fun x hx hn=>h.block x hx (fun e=>hn (by rw[←e];simp))⟩
theorem Trn.below {B:Nat} {w0:World} (hb:Below B w0 w) (h:Trn F w w') (hF: ∀ b ∈ F,B≤b) (hB:B≤w.heap.size):Below B w0 w':=
 hb.trans ⟨h.os,h.tape,h.output,h.size,fun k hk=>h.block k (by omega) (fun e=>by have:=hF k e;omega)⟩
theorem T.ow_trn {x:T} {cs:List Value} (h:T.ow w x F cs) (k:Trn G w w') (hd: ∀ b ∈ F,b ∉ G):T.ow w' x F cs:=
 T.ow_keep x F cs (fun b hb=>k.block b (T.ow_lt x F cs h b hb) (hd b hb)) h
theorem T.ows_trn {xs:List T} {cs:List Value} (h:T.ows w xs F cs) (k:Trn G w w') (hd: ∀ b ∈ F,b ∉ G):T.ows w' xs F cs:=
 T.ows_keep xs F cs (fun b hb=>k.block b (T.ows_lt xs F cs h b hb) (hd b hb)) h
theorem own_trn {B E sz n g cap:Nat} {es:List Value} (h:w.ownsRow B E sz (.slice (some ⟨g,0,none⟩) n cap) n es) (k:Trn G w w') (hd:g ∉ G):w'.ownsRow B E sz (.slice (some ⟨g,0,none⟩) n cap) n es:=
 ownsRow_keep (fun b hb=>by
  have e:g=b:=by simpa[Value.ownBlock] using hb
  subst e
  exact k.block _ (h.lt _ rfl).2 hd) h
theorem Bk.trn {g:Nat} {t:TypeId} {cs:Array Value} (h:Bk w g t cs) (k:Trn G w w') (hd:g ∉ G):Bk w' g t cs:=(k.block g h.lt hd).trans h
end
theorem nodup_fst {A B:List Nat} (h:(A++B).Nodup):A.Nodup:=(List.nodup_append.1 h).1
theorem yN {A B:List Nat} (h:(A++B).Nodup):B.Nodup:=(List.nodup_append.1 h).2.1
theorem nodup_dj {A B:List Nat} (h:(A++B).Nodup): ∀ b ∈ A,b ∉ B:=fun b h1 h2=>(List.nodup_append.1 h).2.2 b h1 b h2 rfl
theorem nodup_dj' {A B:List Nat} (h:(A++B).Nodup): ∀ b ∈ B,b ∉ A:=fun b h1 h2=>(List.nodup_append.1 h).2.2 b h2 b h1 rfl
theorem own_set1 {w:World} {B E sz n g cap j:Nat} {c1 cx c2:List Value} {u:Value} (h:w.ownsRow B E sz (.slice (some ⟨g,0,none⟩) n cap) n (c1++(cx++c2))) (hj:j<cx.length):
  (w.setCell ⟨g,c1.length+j,none⟩ u).ownsRow B E sz (.slice (some ⟨g,0,none⟩) n cap) n (c1++(cx.set j u++c2)):=by
 have:=(World.ownsRow.stored h (c1.length+j) u).1
 rw[List.set_append_right _ _ (by omega),Nat.add_sub_cancel_left,List.set_append_left _ _ hj] at this
 exact this
/-- A slice of the call's own, open at one element. -/
structure Mid (w:World) (E:TypeId) (sz n g cap:Nat) (pre:List T) (x:T) (post:List T) (G1 Fx G2:List Nat) (c1 cx c2:List Value):Prop where
 own:w.ownsRow 0 E sz (.slice (some ⟨g,0,none⟩) n cap) n (c1++(cx++c2))
 pr:T.ows w pre G1 c1
 el:T.ow w x Fx cx
 po:T.ows w post G2 c2
 nd:(g :: (G1++(Fx++G2))).Nodup
 wd: ∀ y ∈ pre++x :: post,T.wide y=sz
 ln:n=(pre++x :: post).length
theorem T.mid {w:World} {E:TypeId} {sz:Nat} {pre:List T} {x:T} {post:List T} {F:List Nat} {v:Value} (h:T.ow w (.sl E sz (pre++x :: post)) F [v]) (hn:F.Nodup):
  ∃ n g cap G1 Fx G2 c1 cx c2,v= .slice (some ⟨g,0,none⟩) n cap∧F=g :: (G1++(Fx++G2))∧Mid w E sz n g cap pre x post G1 Fx G2 c1 cx c2:=by
 simp only[T.ow] at h
 obtain⟨v',es,G,hv,rfl,hw,ho,hs⟩:=h
 obtain rfl:v=v':=by simpa using hv
 obtain⟨G1,F2,c1,c3,rfl,rfl,h1,h2⟩:=(T.ows_app _ _ _ _).1 hs
 simp only[T.ows] at h2
 obtain⟨Fx,G2,cx,c2,rfl,rfl,h3,h4⟩:=h2
 rcases ho.2 with ⟨_,h0⟩|⟨g,cap,cur,hv2,_⟩
 ·simp at h0
 ·subst hv2
  exact⟨_,g,cap,G1,Fx,G2,c1,cx,c2,rfl,by simp[Value.ownBlock],ho,h1,h3,h4,by simpa[Value.ownBlock] using hn,hw,rfl⟩
theorem Mid.c1 {w:World} {E:TypeId} {sz n g cap:Nat} {pre:List T} {x:T} {post:List T} {G1 Fx G2:List Nat} {c1 cx c2:List Value} (h:Mid w E sz n g cap pre x post G1 Fx G2 c1 cx c2):c1.length=pre.length * sz:=by
 rw[T.ows_len h.pr,T.wides_mul pre (fun y hy=>h.wd y (by simp[hy]))]
theorem Mid.gx {w:World} {E:TypeId} {sz n g cap:Nat} {pre:List T} {x:T} {post:List T} {G1 Fx G2:List Nat} {c1 cx c2:List Value} (h:Mid w E sz n g cap pre x post G1 Fx G2 c1 cx c2):g ∉ Fx:=fun hm=>by
 have:=(List.nodup_cons.1 h.nd).1
 exact this (by simp[hm])
theorem Mid.fx {w:World} {E:TypeId} {sz n g cap:Nat} {pre:List T} {x:T} {post:List T} {G1 Fx G2:List Nat} {c1 cx c2:List Value} (h:Mid w E sz n g cap pre x post G1 Fx G2 c1 cx c2):Fx.Nodup:=
 nodup_fst (yN (List.nodup_cons.1 h.nd).2)
/-- The element has turned: the slice is closed again. -/
theorem Mid.close {w w':World} {E:TypeId} {sz n g cap:Nat} {pre:List T} {x x':T} {post:List T} {G1 Fx G2:List Nat} {c1 cx cx' c2:List Value} (h:Mid w E sz n g cap pre x post G1 Fx G2 c1 cx c2)
  (k:Trn (g :: Fx) w w') (ho:w'.ownsRow 0 E sz (.slice (some ⟨g,0,none⟩) n cap) n (c1++(cx'++c2))) (he:T.ow w' x' Fx cx') (hw:T.wide x'=sz):
  T.ow w' (.sl E sz (pre++x' :: post)) (g :: (G1++(Fx++G2))) [.slice (some ⟨g,0,none⟩) n cap]:=by
 have hg:=(List.nodup_cons.1 h.nd).1
 have h2:=(List.nodup_cons.1 h.nd).2
 have d1: ∀ b ∈ G1,b ∉ g :: Fx:=fun b hb hm=>by
  rcases List.mem_cons.1 hm with rfl|hm
  ·exact hg (by simp[hb])
  ·exact nodup_dj h2 b hb (by simp[hm])
 have d2: ∀ b ∈ G2,b ∉ g :: Fx:=fun b hb hm=>by
  rcases List.mem_cons.1 hm with rfl|hm
  ·exact hg (by simp[hb])
  ·exact nodup_dj' (yN h2) b hb hm
 simp only[T.ow]
 refine⟨_,c1++(cx'++c2),G1++(Fx++G2),rfl,by simp[Value.ownBlock],?_,?_,?_⟩
 ·intro y hy
  rcases List.mem_append.1 hy with hy|hy
  ·exact h.wd y (by simp[hy])
  ·rcases List.mem_cons.1 hy with rfl|hy
   ·exact hw
   ·exact h.wd y (by simp[hy])
 ·have:(pre++x' :: post).length=n:=by rw[h.ln];simp
  rw[this];exact ho
 ·refine(T.ows_app _ _ _ _).2 ⟨G1,Fx++G2,c1,cx'++c2,rfl,rfl,T.ows_trn h.pr k d1,?_⟩
  simp only[T.ows]
  exact⟨Fx,G2,cx',c2,rfl,rfl,he,T.ows_trn h.po k d2⟩
theorem T.mid_empty {w:World} {E:TypeId} {sz:Nat} {F:List Nat} {v:Value} (h:T.ow w (.sl E sz []) F [v]): ∃ A c,v= .slice A 0 c:=by
 obtain⟨A,cap,rfl,_⟩:=T.yL (T.ow_rd _ _ _ h)
 exact⟨A,cap,rfl⟩
theorem T.ow_form {w:World} {E:TypeId} {sz:Nat} {xs:List T} {F:List Nat} {v:Value} (h:T.ow w (.sl E sz xs) F [v]) (hn:0<xs.length): ∃ g cap,v= .slice (some ⟨g,0,none⟩) xs.length cap∧xs.length≤cap∧cap≤9223372036854775807:=by
 simp only[T.ow] at h
 obtain⟨v',es,G,hv,_,_,ho,_⟩:=h
 obtain rfl:v=v':=by simpa using hv
 rcases ho.2 with ⟨_,h0⟩|⟨g,cap,cur,hv2,_,_,h1,h2,_⟩
 ·omega
 ·exact⟨g,cap,hv2,h1,by unfold maxLen at h2;omega⟩
theorem own_st {w:World} {B E sz n g cap p:Nat} (j:Nat) {c1 cx c2:List Value} {u:Value} (h:w.ownsRow B E sz (.slice (some ⟨g,0,none⟩) n cap) n (c1++(cx++c2))) (hc:c1.length=p) (hj:j<cx.length):
  (w.setCell ⟨g,p+j,none⟩ u).ownsRow B E sz (.slice (some ⟨g,0,none⟩) n cap) n (c1++(cx.set j u++c2)):=by
 subst hc;exact own_set1 h hj
theorem own_at {w:World} {B E sz n g cap p:Nat} (j:Nat) {c1 zs c2:List Value} (h:w.ownsRow B E sz (.slice (some ⟨g,0,none⟩) n cap) n (c1++(zs++c2))) (hc:c1.length=p) {u:Value} (hj:zs[j]?=some u):w.cell? ⟨g,p+j,none⟩=some u:=by
 subst hc;exact own_cell h hj
end Go.Proofs.YteiflbhcehajkaaGreat
end
