/- Contracts: what is valid, by the program: well formed patches. Laws for data that is marked cell by cell. No program is named here. Contract: the order of a patch's nodes, by the program. -/
import Derived.Test.YtoibekfhepnedaaGreatQAdExactMix
import Derived.Test.YtoibekfhepnedaaGreatQAcExactMix
set_option linter.unusedVariables false
set_option linter.unusedSimpArgs false
set_option maxHeartbeats 2000000
set_option maxRecDepth 20000
namespace Go.Proofs.YtoibekfhepnedaaGreat
section
open Go.RowKit
theorem c_waitsFor (x:xR) (cs:List Value) (w:World) (h:T.rds w x.fs cs):Calls Tryz.prog 263 #[.agg cs.toArray] w fun e w'=> ∃ u,e= .returned u∧RdI w' u (uS x)∧Below w.heap.size w w':=by
 obtain⟨v3,rfl,h3⟩:=xR.yV h;clear h;obtain⟨va3,vc3,rfl,vl3,vm3,R3,HX3⟩:=oI h3;clear h3;have HB0:=xN (show Below w.heap.size w (w.alloc (.cells #[.int .i64 x.zG,.int .i64 x.fA,.int .i64 x.fB,(.slice va3 x.zK.length vc3)] 167)) from zR.alloc zJ _);have HK0:=xN (Bk.born w 167 #[.int .i64 x.zG,.int .i64 x.fA,.int .i64 x.fB,(.slice va3 x.zK.length vc3)]);have HR:=xN (RdI.below R3.out HB0.out);by_cases h6:x.zG=6
 ·have h6':(x.zG == 6)=true:=xA h6;have H6:=xN h6;clear h6
  go_enter Tryz.func263,Tryz.ntmps263
  go_wp2;go_ret
  exact⟨_,rfl,by unfold uS;rw[if_pos H6.out];exact Rd.nil_ _ _,HB0.out⟩
 ·have h6':(x.zG == 6)=false:=yZ h6;have H6:=xN h6;clear h6
  go_enter Tryz.func263,Tryz.ntmps263
  go_wp2;go_ret
  exact⟨_,rfl,by unfold uS;rw[if_neg H6.out];exact HR.out,HB0.out⟩
theorem uMz (x:xO) (cs:List Value) (w:World) (h:T.rds w x.fs cs):Calls Tryz.prog 222 #[.agg cs.toArray] w fun e w'=>e= .returned (.bool (tf (xUz x)))∧Below w.heap.size w w':=by
 obtain⟨v1,v2,v3,rfl,h1,h2,h3⟩:=xO.yV h;clear h;obtain⟨va1,vc1,rfl,vl1,vm1,R1,HX1⟩:=oG h1;clear h1;obtain⟨va2,vc2,rfl,vl2,vm2,R2,HX2⟩:=oG h2;clear h2;obtain⟨va3,vc3,rfl,vl3,vm3,R3,HX3⟩:=oI h3;clear h3;have HB0:=xN (show Below w.heap.size w (w.alloc (.cells #[.int .i64 x.zS,(.slice va1 x.zV.length vc1),(.slice va2 x.zC.length vc2),(.slice va3 x.zT.length vc3)] 108)) from zR.alloc zJ _);have HK0:=xN (Bk.born w 108 #[.int .i64 x.zS,(.slice va1 x.zV.length vc1),(.slice va2 x.zC.length vc2),(.slice va3 x.zT.length vc3)])
 go_enter Tryz.func222,Tryz.ntmps222
 by_cases q1:inB x.zS 0 4=true
 rotate_left
 ·have q1':inB x.zS 0 4=false:=(by simpa using q1)
  go_wp2_with (first|(go_at_call 89;refine(wF _ _ _ _).mono ?_;rintro e w' ⟨rfl,rfl⟩)|(go_at_call 260;refine(yUz _ _ _ _ zM).mono ?_;rintro e w' ⟨rfl,rfl⟩)|(go_at_call 261;refine(yWz _ x.zV _ (T.yM R1.out HB0.out)).mono ?_;rintro e w' ⟨rfl,rfl⟩;rw[a2])|(go_at_call 86;refine(vZ _ x.zT _ (Rd.below R3.out HB0.out)).mono ?_;rintro e w' ⟨rfl,rfl⟩)|(go_at_call 105;refine(wY _ x.zT _ _ (Rd.below R3.out HB0.out) zM zM).mono ?_;rintro e w' ⟨rfl,rfl⟩;rw[a5]))
  go_ret
  exact⟨yP (xH fun h=>q1 h.inputs).symm,HB0.out⟩
 skip
 by_cases q2:wMz x.zV
 rotate_left
 ·have a2:=xH q2;have Q2:=xN q2;clear q2
  go_wp2_with (first|(go_at_call 89;refine(wF _ _ _ _).mono ?_;rintro e w' ⟨rfl,rfl⟩)|(go_at_call 260;refine(yUz _ _ _ _ zM).mono ?_;rintro e w' ⟨rfl,rfl⟩)|(go_at_call 261;refine(yWz _ x.zV _ (T.yM R1.out HB0.out)).mono ?_;rintro e w' ⟨rfl,rfl⟩;rw[a2])|(go_at_call 86;refine(vZ _ x.zT _ (Rd.below R3.out HB0.out)).mono ?_;rintro e w' ⟨rfl,rfl⟩)|(go_at_call 105;refine(wY _ x.zT _ _ (Rd.below R3.out HB0.out) zM zM).mono ?_;rintro e w' ⟨rfl,rfl⟩;rw[a5]))
  go_ret
  exact⟨yP (xH fun h=>Q2.out h.tables).symm,HB0.out⟩
 have a2:=xI q2;have Q2:=xN q2;clear q2;by_cases q3:x.zC.length≤24
 rotate_left
 ·have Q3:=xN q3
  go_wp2_with (first|(go_at_call 89;refine(wF _ _ _ _).mono ?_;rintro e w' ⟨rfl,rfl⟩)|(go_at_call 260;refine(yUz _ _ _ _ zM).mono ?_;rintro e w' ⟨rfl,rfl⟩)|(go_at_call 261;refine(yWz _ x.zV _ (T.yM R1.out HB0.out)).mono ?_;rintro e w' ⟨rfl,rfl⟩;rw[a2])|(go_at_call 86;refine(vZ _ x.zT _ (Rd.below R3.out HB0.out)).mono ?_;rintro e w' ⟨rfl,rfl⟩)|(go_at_call 105;refine(wY _ x.zT _ _ (Rd.below R3.out HB0.out) zM zM).mono ?_;rintro e w' ⟨rfl,rfl⟩;rw[a5]))
  go_ret
  exact⟨yP (xH fun h=>q3 h.few).symm,HB0.out⟩
 have Q3:=xN q3;by_cases q4:x.zT.length≤4
 rotate_left
 ·have Q4:=xN q4
  go_wp2_with (first|(go_at_call 89;refine(wF _ _ _ _).mono ?_;rintro e w' ⟨rfl,rfl⟩)|(go_at_call 260;refine(yUz _ _ _ _ zM).mono ?_;rintro e w' ⟨rfl,rfl⟩)|(go_at_call 261;refine(yWz _ x.zV _ (T.yM R1.out HB0.out)).mono ?_;rintro e w' ⟨rfl,rfl⟩;rw[a2])|(go_at_call 86;refine(vZ _ x.zT _ (Rd.below R3.out HB0.out)).mono ?_;rintro e w' ⟨rfl,rfl⟩)|(go_at_call 105;refine(wY _ x.zT _ _ (Rd.below R3.out HB0.out) zM zM).mono ?_;rintro e w' ⟨rfl,rfl⟩;rw[a5]))
  go_ret
  exact⟨yP (xH fun h=>q4 h.outs).symm,HB0.out⟩
 have Q4:=xN q4;by_cases q5:Idx x.zT (x.zC.length:Int)
 rotate_left
 ·have a5:=xH q5;have Q5:=xN q5;clear q5
  go_wp2_with (first|(go_at_call 89;refine(wF _ _ _ _).mono ?_;rintro e w' ⟨rfl,rfl⟩)|(go_at_call 260;refine(yUz _ _ _ _ zM).mono ?_;rintro e w' ⟨rfl,rfl⟩)|(go_at_call 261;refine(yWz _ x.zV _ (T.yM R1.out HB0.out)).mono ?_;rintro e w' ⟨rfl,rfl⟩;rw[a2])|(go_at_call 86;refine(vZ _ x.zT _ (Rd.below R3.out HB0.out)).mono ?_;rintro e w' ⟨rfl,rfl⟩)|(go_at_call 105;refine(wY _ x.zT _ _ (Rd.below R3.out HB0.out) zM zM).mono ?_;rintro e w' ⟨rfl,rfl⟩;rw[a5]))
  go_ret
  exact⟨yP (xH fun h=>Q5.out h.outputs).symm,HB0.out⟩
 have a5:=xI q5;have Q5:=xN q5;clear q5;go_wp2_with (first|(go_at_call 89;refine(wF _ _ _ _).mono ?_;rintro e w' ⟨rfl,rfl⟩)|(go_at_call 260;refine(yUz _ _ _ _ zM).mono ?_;rintro e w' ⟨rfl,rfl⟩)|(go_at_call 261;refine(yWz _ x.zV _ (T.yM R1.out HB0.out)).mono ?_;rintro e w' ⟨rfl,rfl⟩;rw[a2])|(go_at_call 86;refine(vZ _ x.zT _ (Rd.below R3.out HB0.out)).mono ?_;rintro e w' ⟨rfl,rfl⟩)|(go_at_call 105;refine(wY _ x.zT _ _ (Rd.below R3.out HB0.out) zM zM).mono ?_;rintro e w' ⟨rfl,rfl⟩;rw[a5]))
 clear a2 a5
 go_loopw [39] (fun i wr=> ∃ k:Nat,k≤x.zC.length∧i= .int .i64 k∧vP x.zC (fun _ x_1=>yPz x_1 (x.zV.length:Int)∧Idx x_1.zK (x.zC.length:Int)∧(x_1.zG=1→x_1.fA<x.zS)) k∧Below (w.alloc (.cells #[.int .i64 x.zS,(.slice va1 x.zV.length vc1),(.slice va2 x.zC.length vc2),(.slice va3 x.zT.length vc3)] 108)).heap.size (w.alloc (.cells #[.int .i64 x.zS,(.slice va1 x.zV.length vc1),(.slice va2 x.zC.length vc2),(.slice va3 x.zT.length vc3)] 108)) wr) (fun i _=>x.zC.length - (intOf i).toNat)
 case atStart=>exact⟨0,Nat.zero_le _,rfl,vP.zero,zR⟩
 case round=>
  obtain⟨k,hk,rfl,hs,hbw⟩:=hrel;have HS:=xN hs;have HW:=xN hbw;have HB:=xN (yQ HB0.out HB0.out.size hbw);have HK:=xN (HK0.out.below hbw HK0.out.lt);clear hs hbw;have ka:=HK.out.cell;have la:=HK.out.lt;by_cases hlt:k<x.zC.length
  rotate_left
  ·have hall:=xN (HS.out.all zM);clear HS
   go_wp2;go_ret
   exact⟨yP (xI ⟨q1,Q2.out,Q3.out,Q4.out,Q5.out,hall.out⟩).symm,HB.out⟩
  have hgk:=gE hlt;obtain⟨b1,off,cs1,hA,hb1,hcs,hcell⟩:=HX2.out k x.zC[k] hgk;subst hA;generalize x.zC[k]=y at *;have HG:=xN hgk;clear hgk;obtain⟨u3,rfl,hRY3⟩:=xR.yV (show T.rds _ _ _ by simpa only[xR.t,T.rd] using hcs);have d0:=(HB.out.cell hb1).trans (hcell 0 (.int .i64 y.zG) rfl);have d1:=(HB.out.cell hb1).trans (hcell 1 (.int .i64 y.fA) rfl);have d2:=(HB.out.cell hb1).trans (hcell 2 (.int .i64 y.fB) rfl);have d3:=(HB.out.cell hb1).trans (hcell 3 (u3) rfl);rw[show off+(k * 4+0)=off+k * 4 by omega] at d0;rw[show off+(k * 4+1)=off+k * 4+1 by omega] at d1;rw[show off+(k * 4+2)=off+k * 4+2 by omega] at d2;rw[show off+(k * 4+3)=off+k * 4+3 by omega] at d3;have RY3:=xN (T.yM hRY3 HB.out);clear hRY3;clear hcs hcell;have RY3i:=xN (T.xB.1 RY3.out);obtain⟨ua3,uc3,rfl,ul3,um3,ux3⟩:=RY3i.out.open_;clear ux3;have hq1:b1<wr.heap.size:=zW hb1 HB.out.size;by_cases p1:yPz y (x.zV.length:Int)
  rotate_left
  ·have b1':=xH p1;have P1:=xN p1;clear p1
   have hWb:Below wr.heap.size wr (wr.alloc (.cells #[.int .i64 y.zG,.int .i64 y.fA,.int .i64 y.fB,(.slice ua3 y.zK.length uc3)] 167)):=zR.alloc zJ _;have hNb:=Bk.born wr 167 #[.int .i64 y.zG,.int .i64 y.fA,.int .i64 y.fB,(.slice ua3 y.zK.length uc3)];go_wp2;generalize wr.alloc (.cells #[.int .i64 y.zG,.int .i64 y.fA,.int .i64 y.fB,(.slice ua3 y.zK.length uc3)] 167)=W at *;have HWb:=xN hWb;have HNb:=xN hNb;have HKW:=xN (HK.out.below hWb HK.out.lt);have g0:=xM hNb;have g1:=xM HKW.out;clear hWb hNb;refine rB ?_
   repeat(first|go_big_quiet_skip|(go_big_quiet_want;go_big_quiet_op;first|go_big_quiet_on|(apply Exists.intro;refine⟨fun _=>?_,?_⟩;(· (first|(go_at_call 109;exact Calls.yR (xXz _ _ _ _ zM))|(go_at_call 262;exact Calls.yS ((uLz y _ _ _ (xR.rd_mk (T.yM RY3.out (yQ HWb.out HWb.out.size (yO W _))))).mono (fun e w' h=>by rw[b1'] at h;exact h)))|(go_at_call 105;exact Calls.yR ((wY _ y.zK _ _ (Rd.below RY3i.out (yQ HWb.out HWb.out.size (yO W _))) zM zM).mono (fun e w' h=>by rw[b2'] at h;exact h)))));go_big_quiet_on)))
   refine wpQuiet_nil ?_;rintro w9 ⟨uu,rfl⟩;have hb9:=yO W uu;generalize bel W uu=w9 at *;have HC:=xN (yQ HWb.out HWb.out.size hb9);have HC2:=xN (yQ HB.out HB.out.size HC.out);have HC3:=xN (yQ HW.out HW.out.size HC.out);clear hb9 g0 g1;go_wp2;go_ret
   exact⟨yP (xH fun h=>P1.out (h.nodes k y HG.out).1).symm,HC2.out⟩
  have b1':=xI p1;have P1:=xN p1;clear p1;by_cases p2:Idx y.zK (x.zC.length:Int)
  rotate_left
  ·have b2':=xH p2;have P2:=xN p2;clear p2
   have hWb:Below wr.heap.size wr (wr.alloc (.cells #[.int .i64 y.zG,.int .i64 y.fA,.int .i64 y.fB,(.slice ua3 y.zK.length uc3)] 167)):=zR.alloc zJ _;have hNb:=Bk.born wr 167 #[.int .i64 y.zG,.int .i64 y.fA,.int .i64 y.fB,(.slice ua3 y.zK.length uc3)];go_wp2;generalize wr.alloc (.cells #[.int .i64 y.zG,.int .i64 y.fA,.int .i64 y.fB,(.slice ua3 y.zK.length uc3)] 167)=W at *;have HWb:=xN hWb;have HNb:=xN hNb;have HKW:=xN (HK.out.below hWb HK.out.lt);have g0:=xM hNb;have g1:=xM HKW.out;clear hWb hNb;refine rB ?_
   repeat(first|go_big_quiet_skip|(go_big_quiet_want;go_big_quiet_op;first|go_big_quiet_on|(apply Exists.intro;refine⟨fun _=>?_,?_⟩;(· (first|(go_at_call 109;exact Calls.yR (xXz _ _ _ _ zM))|(go_at_call 262;exact Calls.yS ((uLz y _ _ _ (xR.rd_mk (T.yM RY3.out (yQ HWb.out HWb.out.size (yO W _))))).mono (fun e w' h=>by rw[b1'] at h;exact h)))|(go_at_call 105;exact Calls.yR ((wY _ y.zK _ _ (Rd.below RY3i.out (yQ HWb.out HWb.out.size (yO W _))) zM zM).mono (fun e w' h=>by rw[b2'] at h;exact h)))));go_big_quiet_on)))
   refine wpQuiet_nil ?_;rintro w9 ⟨uu,rfl⟩;have hb9:=yO W uu;generalize bel W uu=w9 at *;have HC:=xN (yQ HWb.out HWb.out.size hb9);have HC2:=xN (yQ HB.out HB.out.size HC.out);have HC3:=xN (yQ HW.out HW.out.size HC.out);clear hb9 g0 g1;go_wp2;go_ret
   exact⟨yP (xH fun h=>P2.out (h.nodes k y HG.out).2.1).symm,HC2.out⟩
  have b2':=xI p2;have P2:=xN p2;clear p2;by_cases p3:y.zG=1
  rotate_left
  ·have p3':(y.zG == 1)=false:=yZ p3;have P3:=xN p3;clear p3
   have hWb:Below wr.heap.size wr (wr.alloc (.cells #[.int .i64 y.zG,.int .i64 y.fA,.int .i64 y.fB,(.slice ua3 y.zK.length uc3)] 167)):=zR.alloc zJ _;have hNb:=Bk.born wr 167 #[.int .i64 y.zG,.int .i64 y.fA,.int .i64 y.fB,(.slice ua3 y.zK.length uc3)];go_wp2;generalize wr.alloc (.cells #[.int .i64 y.zG,.int .i64 y.fA,.int .i64 y.fB,(.slice ua3 y.zK.length uc3)] 167)=W at *;have HWb:=xN hWb;have HNb:=xN hNb;have HKW:=xN (HK.out.below hWb HK.out.lt);have g0:=xM hNb;have g1:=xM HKW.out;clear hWb hNb;refine rB ?_
   repeat(first|go_big_quiet_skip|(go_big_quiet_want;go_big_quiet_op;first|go_big_quiet_on|(apply Exists.intro;refine⟨fun _=>?_,?_⟩;(· (first|(go_at_call 109;exact Calls.yR (xXz _ _ _ _ zM))|(go_at_call 262;exact Calls.yS ((uLz y _ _ _ (xR.rd_mk (T.yM RY3.out (yQ HWb.out HWb.out.size (yO W _))))).mono (fun e w' h=>by rw[b1'] at h;exact h)))|(go_at_call 105;exact Calls.yR ((wY _ y.zK _ _ (Rd.below RY3i.out (yQ HWb.out HWb.out.size (yO W _))) zM zM).mono (fun e w' h=>by rw[b2'] at h;exact h)))));go_big_quiet_on)))
   refine wpQuiet_nil ?_;rintro w9 ⟨uu,rfl⟩;have hb9:=yO W uu;generalize bel W uu=w9 at *;have HC:=xN (yQ HWb.out HWb.out.size hb9);have HC2:=xN (yQ HB.out HB.out.size HC.out);have HC3:=xN (yQ HW.out HW.out.size HC.out);clear hb9 g0 g1;go_wp2
   go_roundw
   case rel=>exact⟨k+1,by omega,by go_num,HS.out.step HG.out ⟨P1.out,P2.out,fun h=>absurd h P3.out⟩,HC3.out⟩
   case measure=>simp[intOf];omega
  have p3':(y.zG == 1)=true:=xA p3;have P3:=xN p3;clear p3;by_cases p4:x.zS≤y.fA
  ·have p4':decide (x.zS≤y.fA)=true:=decide_eq_true p4;have P4:=xN p4
   have hWb:Below wr.heap.size wr (wr.alloc (.cells #[.int .i64 y.zG,.int .i64 y.fA,.int .i64 y.fB,(.slice ua3 y.zK.length uc3)] 167)):=zR.alloc zJ _;have hNb:=Bk.born wr 167 #[.int .i64 y.zG,.int .i64 y.fA,.int .i64 y.fB,(.slice ua3 y.zK.length uc3)];go_wp2;generalize wr.alloc (.cells #[.int .i64 y.zG,.int .i64 y.fA,.int .i64 y.fB,(.slice ua3 y.zK.length uc3)] 167)=W at *;have HWb:=xN hWb;have HNb:=xN hNb;have HKW:=xN (HK.out.below hWb HK.out.lt);have g0:=xM hNb;have g1:=xM HKW.out;clear hWb hNb;refine rB ?_
   repeat(first|go_big_quiet_skip|(go_big_quiet_want;go_big_quiet_op;first|go_big_quiet_on|(apply Exists.intro;refine⟨fun _=>?_,?_⟩;(· (first|(go_at_call 109;exact Calls.yR (xXz _ _ _ _ zM))|(go_at_call 262;exact Calls.yS ((uLz y _ _ _ (xR.rd_mk (T.yM RY3.out (yQ HWb.out HWb.out.size (yO W _))))).mono (fun e w' h=>by rw[b1'] at h;exact h)))|(go_at_call 105;exact Calls.yR ((wY _ y.zK _ _ (Rd.below RY3i.out (yQ HWb.out HWb.out.size (yO W _))) zM zM).mono (fun e w' h=>by rw[b2'] at h;exact h)))));go_big_quiet_on)))
   refine wpQuiet_nil ?_;rintro w9 ⟨uu,rfl⟩;have hb9:=yO W uu;generalize bel W uu=w9 at *;have HC:=xN (yQ HWb.out HWb.out.size hb9);have HC2:=xN (yQ HB.out HB.out.size HC.out);have HC3:=xN (yQ HW.out HW.out.size HC.out);clear hb9 g0 g1;go_wp2;go_ret
   exact⟨yP (xH fun h=>by have:=(h.nodes k y HG.out).2.2 P3.out;have:=P4.out;omega).symm,HC2.out⟩
  have p4':decide (x.zS≤y.fA)=false:=decide_eq_false p4;have P4:=xN p4;have hWb:Below wr.heap.size wr (wr.alloc (.cells #[.int .i64 y.zG,.int .i64 y.fA,.int .i64 y.fB,(.slice ua3 y.zK.length uc3)] 167)):=zR.alloc zJ _;have hNb:=Bk.born wr 167 #[.int .i64 y.zG,.int .i64 y.fA,.int .i64 y.fB,(.slice ua3 y.zK.length uc3)];go_wp2;generalize wr.alloc (.cells #[.int .i64 y.zG,.int .i64 y.fA,.int .i64 y.fB,(.slice ua3 y.zK.length uc3)] 167)=W at *;have HWb:=xN hWb;have HNb:=xN hNb;have HKW:=xN (HK.out.below hWb HK.out.lt);have g0:=xM hNb;have g1:=xM HKW.out;clear hWb hNb;refine rB ?_
  repeat(first|go_big_quiet_skip|(go_big_quiet_want;go_big_quiet_op;first|go_big_quiet_on|(apply Exists.intro;refine⟨fun _=>?_,?_⟩;(· (first|(go_at_call 109;exact Calls.yR (xXz _ _ _ _ zM))|(go_at_call 262;exact Calls.yS ((uLz y _ _ _ (xR.rd_mk (T.yM RY3.out (yQ HWb.out HWb.out.size (yO W _))))).mono (fun e w' h=>by rw[b1'] at h;exact h)))|(go_at_call 105;exact Calls.yR ((wY _ y.zK _ _ (Rd.below RY3i.out (yQ HWb.out HWb.out.size (yO W _))) zM zM).mono (fun e w' h=>by rw[b2'] at h;exact h)))));go_big_quiet_on)))
  refine wpQuiet_nil ?_;rintro w9 ⟨uu,rfl⟩;have hb9:=yO W uu;generalize bel W uu=w9 at *;have HC:=xN (yQ HWb.out HWb.out.size hb9);have HC2:=xN (yQ HB.out HB.out.size HC.out);have HC3:=xN (yQ HW.out HW.out.size HC.out);clear hb9 g0 g1;go_wp2
  go_roundw
  case rel=>exact⟨k+1,by omega,by go_num,HS.out.step HG.out ⟨P1.out,P2.out,fun _=>by have:=P4.out;omega⟩,HC3.out⟩
  case measure=>simp[intOf];omega
end
section
open Go.RowKit
def wR {α:Type} (c:α→Nat):List α→Nat
 | []=>0
 |x :: r=>c x+wR c r
def mkL {α:Type} (m:α→Nat→α) (c:α→Nat):List α→Nat→List α
 | [],_=> []
 |x :: r,k=>m x k :: mkL m c r (k+c x)
section
variable {α:Type} {m:α→Nat→α} {c:α→Nat}
theorem uH: ∀ (xs:List α) (k:Nat),(mkL m c xs k).length=xs.length
 | [],_=>rfl
 |x :: r,k=>by simp[mkL,uH r]
theorem cntL_snoc: ∀ (xs:List α) (x:α),wR c (xs++ [x])=wR c xs+c x
 | [],x=>by simp[wR]
 |y :: r,x=>by simp only[List.cons_append,wR,cntL_snoc r];omega
theorem mkL_snoc: ∀ (xs:List α) (x:α) (k:Nat),mkL m c (xs++ [x]) k=mkL m c xs k++ [m x (k+wR c xs)]
 | [],x,k=>by simp[mkL,wR]
 |y :: r,x,k=>by simp only[List.cons_append,mkL,wR,mkL_snoc r];rw[Nat.add_assoc]
theorem vE {xs:List α} {i:Nat} {x:α} (h:xs[i]?=some x):wR c (xs.take (i+1))=wR c (xs.take i)+c x:=by rw[xZ h,cntL_snoc]
theorem wNz {xs:List α} {i k:Nat} {x:α} (h:xs[i]?=some x):mkL m c (xs.take (i+1)) k=mkL m c (xs.take i) k++ [m x (k+wR c (xs.take i))]:=by rw[xZ h,mkL_snoc]
theorem zPz: ∀ (xs:List α) (i:Nat),wR c (xs.take i)≤wR c xs
 | [],i=>by simp[wR]
 |x :: r,0=>by simp[wR]
 |x :: r,i+1=>by simp only[List.take_succ_cons,wR];have:=zPz r i;omega
theorem uNz: ∀ {xs:List α} {i k:Nat} {x:α},xs[i]?=some x→(mkL m c xs k)[i]?=some (m x (k+wR c (xs.take i)))
 | [],_,_,_,h=>by simp at h
 |y :: r,0,k,x,h=>by simp at h;subst h;simp[mkL,wR]
 |y :: r,i+1,k,x,h=>by
  have:=uNz (xs:=r) (i:=i) (k:=k+c y) (x:=x) (by simpa using h);simp only[mkL,List.getElem?_cons_succ,List.take_succ_cons,wR];rw[this,Nat.add_assoc]
end
section
variable {w w' a b:World} {F G:List Nat}
theorem Trn.refl (F:List Nat) (w:World):Trn F w w:=⟨rfl,rfl,rfl,zJ,fun _ _ _=>rfl⟩
theorem Trn.trans (h:Trn F w a) (k:Trn F a b):Trn F w b:=
 ⟨k.os.trans h.os,k.tape.trans h.tape,k.output.trans h.output,Nat.le_trans h.size k.size,fun x hx hn=>(k.block x (zW hx h.size) hn).trans (h.block x hx hn)⟩
theorem Trn.mono (h:Trn F w w') (hs: ∀ b ∈ F,b ∈ G):Trn G w w':=⟨h.os,h.tape,h.output,h.size,fun x hx hn=>h.block x hx (fun e=>hn (hs x e))⟩
theorem Trn.of_below (h:Below w.heap.size w w'):Trn F w w':=⟨h.os,h.tape,h.output,h.size,fun x hx _=>h.block x hx⟩
theorem Trn.set_ {g:Nat} (hg:g ∈ F) (o:Nat) (u:Value):Trn F w (w.setCell ⟨g,o,none⟩ u):=
 ⟨rfl,rfl,rfl,by simp[World.setCell],fun x _ hn=>Below.heap_setCell w _ u x (fun e=>hn (by rw[show x=g from e];exact hg))⟩
theorem Trn.alloc (o:Obj):Trn F w (w.alloc o):=Trn.of_below (zR.alloc zJ o)
theorem Trn.of_grown {v:Value} (h:w.grownBy w' v.ownBlock):Trn v.ownBlock.toList w w':=
 ⟨h.os,h.tape,h.output,h.size,fun x hx hn=>h.block x hx (fun e=>hn (by rw[←e];simp))⟩
theorem Trn.below {B:Nat} {w0:World} (hb:Below B w0 w) (h:Trn F w w') (hF: ∀ b ∈ F,B≤b) (hB:B≤w.heap.size):Below B w0 w':=
 hb.trans ⟨h.os,h.tape,h.output,h.size,fun k hk=>h.block k zM (fun e=>by have:=hF k e;omega)⟩
theorem T.ow_trn {x:T} {cs:List Value} (h:T.ow w x F cs) (k:Trn G w w') (hd: ∀ b ∈ F,b ∉ G):T.ow w' x F cs:=
 T.ow_keep x F cs (fun b hb=>k.block b (T.ow_lt x F cs h b hb) (hd b hb)) h
theorem T.ows_trn {xs:List T} {cs:List Value} (h:T.ows w xs F cs) (k:Trn G w w') (hd: ∀ b ∈ F,b ∉ G):T.ows w' xs F cs:=
 T.ows_keep xs F cs (fun b hb=>k.block b (T.ows_lt xs F cs h b hb) (hd b hb)) h
theorem wSz {B E sz n g cap:Nat} {es:List Value} (h:w.ownsRow B E sz (.slice (some ⟨g,0,none⟩) n cap) n es) (k:Trn G w w') (hd:g ∉ G):w'.ownsRow B E sz (.slice (some ⟨g,0,none⟩) n cap) n es:=
 yDz (fun b hb=>by
  have e:g=b:=by simpa[Value.ownBlock] using hb
  subst e;exact k.block _ (h.lt _ rfl).2 hd) h
theorem Bk.trn {g:Nat} {t:TypeId} {cs:Array Value} (h:Bk w g t cs) (k:Trn G w w') (hd:g ∉ G):Bk w' g t cs:=(k.block g h.lt hd).trans h
end
theorem vM {A B:List Nat} (h:(A++B).Nodup):A.Nodup:=(List.nodup_append.1 h).1
theorem yY {A B:List Nat} (h:(A++B).Nodup):B.Nodup:=(List.nodup_append.1 h).2.1
theorem wV {A B:List Nat} (h:(A++B).Nodup): ∀ b ∈ A,b ∉ B:=fun b h1 h2=>(List.nodup_append.1 h).2.2 b h1 b h2 rfl
theorem nodup_dj' {A B:List Nat} (h:(A++B).Nodup): ∀ b ∈ B,b ∉ A:=fun b h1 h2=>(List.nodup_append.1 h).2.2 b h2 b h1 rfl
theorem own_set1 {w:World} {B E sz n g cap j:Nat} {c1 cx c2:List Value} {u:Value} (h:w.ownsRow B E sz (.slice (some ⟨g,0,none⟩) n cap) n (c1++(cx++c2))) (hj:j<cx.length):
  (w.setCell ⟨g,c1.length+j,none⟩ u).ownsRow B E sz (.slice (some ⟨g,0,none⟩) n cap) n (c1++(cx.set j u++c2)):=by
 have:=(World.ownsRow.stored h (c1.length+j) u).1;rw[List.set_append_right _ _ zM,Nat.add_sub_cancel_left,List.set_append_left _ _ hj] at this;exact this
structure Mid (w:World) (E:TypeId) (sz n g cap:Nat) (pre:List T) (x:T) (post:List T) (G1 Fx G2:List Nat) (c1 cx c2:List Value):Prop where
 own:w.ownsRow 0 E sz (.slice (some ⟨g,0,none⟩) n cap) n (c1++(cx++c2))
 pr:T.ows w pre G1 c1
 el:T.ow w x Fx cx
 po:T.ows w post G2 c2
 nd:(g :: (G1++(Fx++G2))).Nodup
 wd: ∀ y ∈ pre++x :: post,T.wide y=sz
 ln:n=(pre++x :: post).length
theorem T.mid {w:World} {E:TypeId} {sz:Nat} {pre:List T} {x:T} {post:List T} {F:List Nat} {v:Value} (h:T.ow w (.sl E sz (pre++x :: post)) F [v]) (hn:F.Nodup):
  ∃ n g cap G1 Fx G2 c1 cx c2,v= .slice (some ⟨g,0,none⟩) n cap∧F=g :: (G1++(Fx++G2))∧Mid w E sz n g cap pre x post G1 Fx G2 c1 cx c2:=by
 simp only[T.ow] at h;obtain⟨v',es,G,hv,rfl,hw,ho,hs⟩:=h;obtain rfl:v=v':=by simpa using hv
 obtain⟨G1,F2,c1,c3,rfl,rfl,h1,h2⟩:=(T.ows_app _ _ _ _).1 hs;simp only[T.ows] at h2;obtain⟨Fx,G2,cx,c2,rfl,rfl,h3,h4⟩:=h2
 rcases ho.2 with ⟨_,h0⟩|⟨g,cap,cur,hv2,_⟩
 ·simp at h0
 ·subst hv2
  exact⟨_,g,cap,G1,Fx,G2,c1,cx,c2,rfl,by simp[Value.ownBlock],ho,h1,h3,h4,by simpa[Value.ownBlock] using hn,hw,rfl⟩
theorem Mid.c1 {w:World} {E:TypeId} {sz n g cap:Nat} {pre:List T} {x:T} {post:List T} {G1 Fx G2:List Nat} {c1 cx c2:List Value} (h:Mid w E sz n g cap pre x post G1 Fx G2 c1 cx c2):c1.length=pre.length * sz:=by
 rw[T.ows_len h.pr,T.wides_mul pre (fun y hy=>h.wd y (by simp[hy]))]
theorem Mid.gx {w:World} {E:TypeId} {sz n g cap:Nat} {pre:List T} {x:T} {post:List T} {G1 Fx G2:List Nat} {c1 cx c2:List Value} (h:Mid w E sz n g cap pre x post G1 Fx G2 c1 cx c2):g ∉ Fx:=fun hm=>by
 have:=(List.nodup_cons.1 h.nd).1;exact this (by simp[hm])
theorem Mid.fx {w:World} {E:TypeId} {sz n g cap:Nat} {pre:List T} {x:T} {post:List T} {G1 Fx G2:List Nat} {c1 cx c2:List Value} (h:Mid w E sz n g cap pre x post G1 Fx G2 c1 cx c2):Fx.Nodup:=
 vM (yY (List.nodup_cons.1 h.nd).2)
theorem Mid.close {w w':World} {E:TypeId} {sz n g cap:Nat} {pre:List T} {x x':T} {post:List T} {G1 Fx G2:List Nat} {c1 cx cx' c2:List Value} (h:Mid w E sz n g cap pre x post G1 Fx G2 c1 cx c2)
  (k:Trn (g :: Fx) w w') (ho:w'.ownsRow 0 E sz (.slice (some ⟨g,0,none⟩) n cap) n (c1++(cx'++c2))) (he:T.ow w' x' Fx cx') (hw:T.wide x'=sz):
  T.ow w' (.sl E sz (pre++x' :: post)) (g :: (G1++(Fx++G2))) [.slice (some ⟨g,0,none⟩) n cap]:=by
 have hg:=(List.nodup_cons.1 h.nd).1;have h2:=(List.nodup_cons.1 h.nd).2
 have d1: ∀ b ∈ G1,b ∉ g :: Fx:=fun b hb hm=>by
  rcases List.mem_cons.1 hm with rfl|hm
  ·exact hg (by simp[hb])
  ·exact wV h2 b hb (by simp[hm])
 have d2: ∀ b ∈ G2,b ∉ g :: Fx:=fun b hb hm=>by
  rcases List.mem_cons.1 hm with rfl|hm
  ·exact hg (by simp[hb])
  ·exact nodup_dj' (yY h2) b hb hm
 simp only[T.ow];refine⟨_,c1++(cx'++c2),G1++(Fx++G2),rfl,by simp[Value.ownBlock],?_,?_,?_⟩
 ·intro y hy
  rcases List.mem_append.1 hy with hy|hy
  ·exact h.wd y (by simp[hy])
  ·rcases List.mem_cons.1 hy with rfl|hy
   ·exact hw
   ·exact h.wd y (by simp[hy])
 ·have:(pre++x' :: post).length=n:=by rw[h.ln];simp
  rw[this];exact ho
 ·refine(T.ows_app _ _ _ _).2 ⟨G1,Fx++G2,c1,cx'++c2,rfl,rfl,T.ows_trn h.pr k d1,?_⟩
  simp only[T.ows];exact⟨Fx,G2,cx',c2,rfl,rfl,he,T.ows_trn h.po k d2⟩
theorem T.mid_empty {w:World} {E:TypeId} {sz:Nat} {F:List Nat} {v:Value} (h:T.ow w (.sl E sz []) F [v]): ∃ A c,v= .slice A 0 c:=by
 obtain⟨A,cap,rfl,_⟩:=T.yV (T.ow_rd _ _ _ h);exact⟨A,cap,rfl⟩
theorem T.ow_form {w:World} {E:TypeId} {sz:Nat} {xs:List T} {F:List Nat} {v:Value} (h:T.ow w (.sl E sz xs) F [v]) (hn:0<xs.length): ∃ g cap,v= .slice (some ⟨g,0,none⟩) xs.length cap∧xs.length≤cap∧cap≤9223372036854775807:=by
 simp only[T.ow] at h;obtain⟨v',es,G,hv,_,_,ho,_⟩:=h;obtain rfl:v=v':=by simpa using hv
 rcases ho.2 with ⟨_,h0⟩|⟨g,cap,cur,hv2,_,_,h1,h2,_⟩
 ·omega
 ·exact⟨g,cap,hv2,h1,by unfold maxLen at h2;omega⟩
theorem xKz {w:World} {B E sz n g cap p:Nat} (j:Nat) {c1 cx c2:List Value} {u:Value} (h:w.ownsRow B E sz (.slice (some ⟨g,0,none⟩) n cap) n (c1++(cx++c2))) (hc:c1.length=p) (hj:j<cx.length):
  (w.setCell ⟨g,p+j,none⟩ u).ownsRow B E sz (.slice (some ⟨g,0,none⟩) n cap) n (c1++(cx.set j u++c2)):=by
 subst hc;exact own_set1 h hj
theorem vG {w:World} {B E sz n g cap p:Nat} (j:Nat) {c1 zs c2:List Value} (h:w.ownsRow B E sz (.slice (some ⟨g,0,none⟩) n cap) n (c1++(zs++c2))) (hc:c1.length=p) {u:Value} (hj:zs[j]?=some u):w.cell? ⟨g,p+j,none⟩=some u:=by
 subst hc;exact uF h hj
end
section
open Go.RowKit
def Tk (w:World) (B g n:Nat) (f:Nat→Bool):Prop:=w.ownsRow B 4 1 (.slice (some ⟨g,0,none⟩) n n) n ((List.range n).map fun i=> .bool (f i))
theorem Tk.cell {w:World} {B g n:Nat} {f:Nat→Bool} (h:Tk w B g n f) {i:Nat} (hi:i<n):w.cell? ⟨g,i,none⟩=some (.bool (f i)):=by
 rw[World.ownsRow.cellAt h i zM,List.getElem?_map,List.getElem?_range hi];rfl
theorem Tk.free {w:World} {B g n:Nat} {f:Nat→Bool} (h:Tk w B g n f) (i:Nat):w.frozen? ⟨g,i,none⟩=false:=World.ownsRow.frozenAt h i
theorem Tk.lt {w:World} {B g n:Nat} {f:Nat→Bool} (h:Tk w B g n f):g<w.heap.size:=(World.ownsRow.lt h g rfl).2
theorem Tk.all {w w':World} {B g n:Nat} {f:Nat→Bool} (h:Tk w B g n f) (hb:Below w.heap.size w w'):Tk w' B g n f:=wX h hb
theorem Tk.grown {w w':World} {B g n:Nat} {f:Nat→Bool} {row:Option Nat} (h:Tk w B g n f) (hg:w.grownBy w' row) (hr:some g≠row):Tk w' B g n f:=
 yDz (fun b hb=>by injection hb with hb;subst hb;exact hg.block _ h.lt hr) h
theorem Tk.set_ {w:World} {B g n:Nat} {f:Nat→Bool} (h:Tk w B g n f) (k:Nat):Tk (w.setCell ⟨g,k,none⟩ (.bool true)) B g n (fun i=>if i=k then true else f i):=by
 have:=(World.ownsRow.stored h k (.bool true)).1;unfold Tk
 have e:((List.range n).map fun i=>Value.bool (f i)).set k (.bool true)=(List.range n).map fun i=>Value.bool (if i=k then true else f i):=by
  apply List.ext_getElem
  ·simp
  ·intro i h1 h2
   rw[List.getElem_set];by_cases e:k=i
   ·simp[e]
   ·have e': ¬ i=k:=fun h=>e h.symm
    simp[e,e']
 rw[e] at this;exact this
theorem Tk.zFy {w:World} {B g n:Nat} {f:Nat→Bool} (h:Tk w B g n f) (k:Nat):w.grownBy (w.setCell ⟨g,k,none⟩ (.bool true)) (some g):=(World.ownsRow.stored h k (.bool true)).2
theorem info_bool:(Tryz.prog.info? 4).map (fun i=>(i.zero,i.size,i.bytes))=some (some (.bool false),1,1):=by kernel_rfl
theorem Tk.made {w:World} {B g n:Nat} (h:w.ownsRow B 4 1 (.slice (some ⟨g,0,none⟩) n n) n (madeCells (Value.bool false).cells (n * 1)).toList):Tk w B g n fun _=>false:=by
 have e:(madeCells (Value.bool false).cells (n * 1)).toList=List.replicate n (Value.bool false):=by
  rw[Nat.mul_one];exact toList_madeCells_one _ n
 rw[e] at h;unfold Tk
 have e2:(List.range n).map (fun i=>Value.bool false)=List.replicate n (Value.bool false):=by
  apply List.ext_getElem
  ·simp
  ·intro i h1 h2;simp
 rw[e2];exact h
theorem readyB_of {nodes:List xR} {out:List Int} {k:Nat} {y:xR} (h:nodes[k]?=some y):zZz nodes out k=(!decide ((k:Int) ∈ out) && (uS y).all fun f=>decide (f ∈ out)):=by
 unfold zZz;rw[h];simp
theorem all_take_snoc {l:List Int} {out:List Int} {t:Nat} {f:Int} (h:l[t]?=some f):((l.take (t+1)).all fun f=>decide (f ∈ out))=((l.take t).all (fun f=>decide (f ∈ out)) && decide (f ∈ out)):=by
 rw[xZ h,List.all_append];simp
def lenV:Value→Nat
 | .slice _ n _=>n
 |_=>0
def fdN:Value→Nat
 | .bool true=>1
 |_=>0
theorem mark_snoc (l:List Int) (k:Nat):(fun i:Nat=>if i=k then true else decide ((i:Int) ∈ l))=fun i:Nat=>decide ((i:Int) ∈ l++ [(k:Int)]):=by
 funext i
 by_cases e:i=k
 ·subst e;simp
 ·have: ¬ (i:Int)=(k:Int):=by omega
  simp[e,this]
theorem waits_idx {y:xR} {n:Int} (h:Idx y.zK n):Idx (uS y) n:=by
 unfold uS
 split
 ·intro i x hx;simp at hx
 ·exact h
theorem OwI.all {E:TypeId} {w w':World} {B:Nat} {v:Value} {xs:List Int} (h:OwI E w B v xs) (hb:Below w.heap.size w w'):OwI E w' B v xs:=h.below hb fun b hb'=>(h.lt b hb').2
theorem c_order (x:xO) (cs:List Value) (w:World) (hn:x.zC.length≤1048576) (hw:Each x.zC fun _ y=>Idx y.zK (x.zC.length:Int)) (h:T.rds w x.fs cs):Calls Tryz.prog 223 #[.agg cs.toArray] w fun e w'=> ∃ v,e= .returned v∧OwI 2 w' w.heap.size v (wD x.zC)∧Below w.heap.size w w':=by
 obtain⟨v1,v2,v3,rfl,h1,h2,h3⟩:=xO.yV h;clear h;obtain⟨va1,vc1,rfl,vl1,vm1,R1,HX1⟩:=oG h1;clear h1;obtain⟨va2,vc2,rfl,vl2,vm2,R2,HX2⟩:=oG h2;clear h2;obtain⟨va3,vc3,rfl,vl3,vm3,R3,HX3⟩:=oI h3;clear h3;have HB0:=xN (show Below w.heap.size w (w.alloc (.cells #[.int .i64 x.zS,(.slice va1 x.zV.length vc1),(.slice va2 x.zC.length vc2),(.slice va3 x.zT.length vc3)] 108)) from zR.alloc zJ _);have HK0:=xN (Bk.born w 108 #[.int .i64 x.zS,(.slice va1 x.zV.length vc1),(.slice va2 x.zC.length vc2),(.slice va3 x.zT.length vc3)]);have HWF:=xN hw;clear hw;obtain⟨i0,hi,hz0,hz1,hz2⟩:=info_parts info_bool
 go_enter Tryz.func223,Tryz.ntmps223
 go_wp2_with (at_make;refine wpList_make_full _ rfl _ _ _ rfl w.heap.size 4 i0 _ 1 Tryz.underlying293 hi hz0 hz1 .i64 .i64 _ _ x.zC.length rfl rfl rfl rfl (by rw[hz2];omega) (by unfold maxLen;omega) (by simp) ?_;intro w1 hown1 hg1)
 have e1:(w.alloc (.cells #[.int .i64 x.zS,(.slice va1 x.zV.length vc1),(.slice va2 x.zC.length vc2),(.slice va3 x.zT.length vc3)] 108)).heap.size=w.heap.size+1:=by simp
 rw[e1] at hown1;have HT1:=xN (Tk.made hown1);have hz1':w.heap.size+2≤w1.heap.size:=by have:=HT1.out.lt;omega
 have HB1:=xN (HB0.out.grown hg1 (by rw[e1];omega) (by simp));have HK1:=xN (HK0.out.grown hg1 (by simp));clear hown1 hg1 e1 hi hz0 hz1 hz2 hz1';have hz1':w.heap.size+2≤w1.heap.size:=by have:=HT1.out.lt;omega
 go_loopw [4,5] (fun v fd wr=> ∃ (m:Nat) (b:Bool),fd= .bool b∧OwI 2 wr (w.heap.size+2) v (xJ x.zC m)∧(xJ x.zC m).length=m∧Tk wr w.heap.size (w.heap.size+1) x.zC.length (fun i=>decide ((i:Int) ∈ (xJ x.zC m)))∧(b=false→vGz x.zC (xJ x.zC m)=none)∧Bk wr w.heap.size 108 #[.int .i64 x.zS,(.slice va1 x.zV.length vc1),(.slice va2 x.zC.length vc2),(.slice va3 x.zT.length vc3)]∧Below w.heap.size w wr) (fun v fd _=>x.zC.length - lenV v+fdN fd)
 case atStart=>
  refine⟨0,true,rfl,(vL w1).more hz1',rfl,?_,fun h=>absurd h (by simp),HK1.out.alloc _,HB1.out.alloc zM _⟩;have:=HT1.out.all (zR.alloc zJ (.cells #[] 2))
  simpa[xJ] using this
 case round=>
  obtain⟨m,b,rfl,ho,hlen,htk,hst,hbk,hbw⟩:=hrel;obtain⟨A,cp,rfl,hcl,hcm,_⟩:=ho.rd.open_;have HO:=xN ho;have HLEN:=xN hlen;have HTK:=xN htk;have HST:=xN hst;have HK:=xN hbk;have HB:=xN hbw;have hsz:=hbw.size;clear ho htk hst hbk hbw;have ka:=HK.out.cell;have la:=HK.out.lt;have hcap:=wGz (nodes:=x.zC) m
  cases b
  ·have HS2:=xN (HST.out rfl)
   have HE:=xN (uJz HS2.out HLEN.out);clear hlen hcap;go_wp2;go_ret
   exact⟨_,rfl,by rw[HE.out];exact HO.out.more zM,HB.out⟩
  rw[hlen] at hcap hcl ⊢;have HO':=xN (show OwI 2 wr (w.heap.size+2) (.slice A m cp) (xJ x.zC m) by have:=HO.out;rwa [hlen] at this);clear hlen;go_wp2;clear ka la;generalize wr=wo at *
  go_loopw [4,5,20] (fun v fd i wr=> ∃ k:Nat,k≤x.zC.length∧i= .int .i64 k∧v= .slice A m cp∧fd= .bool false∧(∀ j,j<k→zZz x.zC (xJ x.zC m) j=false)∧Below wo.heap.size wo wr) (fun _ _ i _=>x.zC.length - (intOf i).toNat)
  case atStart=>exact⟨0,Nat.zero_le _,rfl,rfl,rfl,fun j h=>absurd h zM,zR⟩
  case round=>
   obtain⟨k,hk,rfl,rfl,rfl,hno,hbw⟩:=hrel;have HNO:=xN hno;have HW:=xN hbw;have HB2:=xN (yQ HB.out HB.out.size hbw);have HK2:=xN (HK.out.below hbw HK.out.lt);have HT2:=xN (HTK.out.all hbw);have HO2:=xN (HO'.out.all hbw);clear hno hbw;have ka:=HK2.out.cell;have la:=HK2.out.lt;have lt:=HT2.out.lt;by_cases hlt:k<x.zC.length
   rotate_left
   ·have hnone:=xN (nextF_none (nodes:=x.zC) (out:=(xJ x.zC m)) (fun j hj=>HNO.out j zM))
    go_wp2
    go_roundw
    case rel=>exact⟨m,false,rfl,HO2.out,HLEN.out,HT2.out,fun _=>hnone.out,HK2.out,HB2.out⟩
    case measure=>show x.zC.length - m+0<x.zC.length - m+1;omega
   have hgk:=gE hlt;obtain⟨b1,off,cs1,hA,hb1,hcs,hcell⟩:=HX2.out k x.zC[k] hgk;subst hA;generalize x.zC[k]=y at *;have HG:=xN hgk;have HWY:=xN (HWF.out k y hgk);clear hgk;obtain⟨u3,rfl,hRY3⟩:=xR.yV (show T.rds _ _ _ by simpa only[xR.t,T.rd] using hcs);have d0:=(HB2.out.cell hb1).trans (hcell 0 (.int .i64 y.zG) rfl);have d1:=(HB2.out.cell hb1).trans (hcell 1 (.int .i64 y.fA) rfl);have d2:=(HB2.out.cell hb1).trans (hcell 2 (.int .i64 y.fB) rfl);have d3:=(HB2.out.cell hb1).trans (hcell 3 (u3) rfl);rw[show off+(k * 4+0)=off+k * 4 by omega] at d0;rw[show off+(k * 4+1)=off+k * 4+1 by omega] at d1;rw[show off+(k * 4+2)=off+k * 4+2 by omega] at d2;rw[show off+(k * 4+3)=off+k * 4+3 by omega] at d3;have RY3:=xN (T.yM hRY3 HB2.out);clear hRY3;clear hcs hcell;have RY3i:=xN (T.xB.1 RY3.out);obtain⟨ua3,uc3,rfl,ul3,um3,ux3⟩:=RY3i.out.open_;clear ux3;have hq1:b1<wr.heap.size:=zW hb1 HB2.out.size;have ct:=HT2.out.cell hlt;have HRDY:=xN (readyB_of (out:=(xJ x.zC m)) HG.out);generalize hk0:decide ((k:Int) ∈ (xJ x.zC m))=kin at *;clear hk0;have HWY2:=xN (show Below wr.heap.size wr (wr.alloc (.cells #[.int .i64 y.zG,.int .i64 y.fA,.int .i64 y.fB,(.slice ua3 y.zK.length uc3)] 167)) from zR.alloc zJ _);go_wp2_with fail
   refine(c_waitsFor y _ _ (xR.rd_mk (T.yM RY3.out HWY2.out))).mono ?_;rintro e w4 ⟨u,rfl,hu,hb4⟩;have HB4:=xN (yQ HWY2.out HWY2.out.size hb4);clear hb4;have HB5:=xN (yQ HB2.out HB2.out.size HB4.out);have HK5:=xN (HK2.out.below HB4.out HK2.out.lt);have HT5:=xN (HT2.out.all HB4.out);have HO5:=xN (HO2.out.all HB4.out);have HW5:=xN (yQ HW.out HW.out.size HB4.out);have HU:=xN hu;obtain⟨ua,uc,rfl,hul,hum,hux⟩:=hu.open_;have HUX:=xN hux;clear hux ka la lt ct d0 d1 d2 d3 hq1 hu;go_wp2
   go_loopw [8,33] (fun r i ws=> ∃ t:Nat,t≤(uS y).length∧i= .int .i64 t∧r= .bool (!kin && ((uS y).take t).all fun f=>decide (f ∈ (xJ x.zC m)))∧Below w4.heap.size w4 ws) (fun _ i _=>(uS y).length - (intOf i).toNat)
   case atStart=>exact⟨0,Nat.zero_le _,rfl,by simp,zR⟩
   case round=>
    obtain⟨t,ht,rfl,rfl,hbs⟩:=hrel;have HW6:=xN hbs;have HB6:=xN (yQ HB5.out HB5.out.size hbs);have HK6:=xN (HK5.out.below hbs HK5.out.lt);have HT6:=xN (HT5.out.all hbs);have HO6:=xN (HO5.out.all hbs);clear hbs;have ka:=HK6.out.cell;have la:=HK6.out.lt;have lt:=HT6.out.lt;generalize hgr:(!kin && ((uS y).take t).all fun f=>decide (f ∈ (xJ x.zC m)))=r at *;have HR:=xN hgr;clear hgr;by_cases hltt:t<(uS y).length
    ·have hgt:=gE hltt
     obtain⟨b3,off3,hA,hb3,hcf⟩:=HUX.out t (uS y)[t] hgt;subst hA;generalize (uS y)[t]=fv at *;have HF:=xN hgt;clear hgt;have hfr:=(waits_idx HWY.out) t fv HF.out;obtain⟨fn,rfl⟩: ∃ fn:Nat,fv=(fn:Int):=⟨fv.toNat,by omega⟩;have hfn:fn<x.zC.length:=by omega
     have cf:=(HW6.out.cell hb3).trans hcf;have hq3:b3<wr.heap.size:=zW hb3 HW6.out.size;have ct:=HT6.out.cell hfn;have HSN:=xN (all_take_snoc (out:=(xJ x.zC m)) HF.out);generalize hf0:decide ((fn:Int) ∈ (xJ x.zC m))=fin at *;clear hf0 hfr;have n1:((fn:Int)<(x.zC.length:Int)):=by omega
     cases r
     ·go_wp2
      go_roundw
      case rel=>exact⟨t+1,by omega,by go_num,by rw[HSN.out,←Bool.and_assoc,HR.out];rfl,HW6.out⟩
      case measure=>simp[intOf];omega
     ·go_wp2
      go_roundw
      case rel=>exact⟨t+1,by omega,by go_num,by rw[HSN.out,←Bool.and_assoc,HR.out];rfl,HW6.out⟩
      case measure=>simp[intOf];omega
    have ht2:t=(uS y).length:=by omega
    have HRD:=xN (show zZz x.zC (xJ x.zC m) k=r by rw[HRDY.out,←HR.out,ht2,List.take_length]);clear ht2
    cases r
    ·go_wp2
     go_roundw
     case rel=>exact⟨k+1,by omega,by go_num,rfl,rfl,fun j hj=>by
    by_cases e:j=k
    ·subst e;exact HRD.out
    ·exact HNO.out j zM,yQ HW5.out HW5.out.size HW6.out⟩
     case measure=>simp[intOf];omega
    have HNX:=xN (nextF_some hlt HRD.out HNO.out);have fr:=HT6.out.free k;have ck:=HT6.out.cell hlt;have n2:((k:Int)<(x.zC.length:Int)):=by omega
    have HT7:=xN (show Tk (wr.setCell ⟨w.heap.size+1,k,none⟩ (.bool true)) w.heap.size (w.heap.size+1) x.zC.length (fun i=>decide ((i:Int) ∈ (xJ x.zC m)++ [(k:Int)])) by have:=HT6.out.set_ k;rw[mark_snoc] at this;exact this);have HG7:=xN (HT6.out.zFy k);have HO7:=xN (HO6.out.far (p:=⟨w.heap.size+1,k,none⟩) (fun b hb=>by have:=(HO6.out.lt b hb).1;simp only;omega) (.bool true));have HK7:=xN (HK6.out.far (p:=⟨w.heap.size+1,k,none⟩) (by simp only;omega) (.bool true));have HB7:=xN (HB6.out.grown HG7.out HB6.out.size (fun j hj=>by injection hj with hj;omega));have hs7:=HB7.out.size;have hz7:=HG7.out.size;have hbb:w.heap.size+2≤(wr.setCell ⟨w.heap.size+1,k,none⟩ (.bool true)).heap.size:=by omega
    have hll:(xJ x.zC m).length+1≤17592186044416:=by rw[HLEN.out];omega
    have hsz7:(wr.setCell ⟨w.heap.size+1,k,none⟩ (.bool true)).heap.size=wr.heap.size:=by simp[World.setCell]
    go_wp2_with (at_builtin;refine zDz (n:=(k:Int)) rfl _ _ rfl rfl HO7.out (by show Value.slice (some ⟨wr.heap.size,0,none⟩) 1 1=_;rw[hsz7]) hll hbb ?_;intro v8 w8 ho8 hg8 hv8;have HO8:=xN ho8;have HG8:=xN hg8;clear ho8 hg8 hv8)
    have HB8:=xN (HB7.out.grown HG8.out zM (fun j hj=>by have:=(HO7.out.lt j hj).1;omega));have HT8:=xN (HT7.out.grown HG8.out (fun e=>by have:=(HO7.out.lt _ e.symm).1;omega));have HK8:=xN (HK7.out.grown HG8.out (fun e=>by have:=(HO7.out.lt _ e.symm).1;omega));have HSN:=xN (wYz HNX.out);have HL8:=xN (show (xJ x.zC (m+1)).length=m+1 by rw[HSN.out,List.length_append,HLEN.out];rfl);have hc8:=wGz (nodes:=x.zC) (m+1);rw[HL8.out] at hc8;obtain⟨A8,c8,rfl,_,_,_⟩:=HO8.out.rd.open_;have HO9:=xN (show OwI 2 w8 (w.heap.size+2) (.slice A8 (m+1) c8) (xJ x.zC (m+1)) by have:=HO8.out;rw[HSN.out];simpa[HLEN.out] using this);rw[show (xJ x.zC m++ [(k:Int)]).length=m+1 by rw[←HSN.out];exact HL8.out];clear HO8 fr ck;go_wp2
    go_roundw
    case rel=>
     refine⟨m+1,true,rfl,HO9.out,HL8.out,?_,fun h=>absurd h (by simp),HK8.out,HB8.out⟩;have:=HT8.out;rw[HSN.out];exact this
    case measure=>show x.zC.length - (m+1)+1<x.zC.length - m+1;omega
end
end Go.Proofs.YtoibekfhepnedaaGreat
