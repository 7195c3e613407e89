/- Contracts: what is valid, by the program: nodes. Contracts: what is valid, by the program: well formed patches. -/
import Derived.Test.YtdcofkabaigjpaaGreatQAdUndone
import Derived.Deep.RegionWith
import Derived.Test.YtdcofkabaigjpaaGreatQAbUndone
set_option linter.unusedVariables false
set_option linter.unusedSimpArgs false
set_option maxHeartbeats 2000000
set_option maxRecDepth 20000
namespace Go.Proofs.YtdcofkabaigjpaaGreat
section
open Go.RowKit
theorem xTz (x:xP) (cs:List Value) (tables:Int) (w:World) (h:T.rds w x.fs cs):Calls Tryz.prog 155 #[.agg cs.toArray,.int .i64 tables] w fun e w'=>e= .returned (.bool (tf (NodeOk x tables)))∧Below w.heap.size w w':=by
 obtain⟨v3,rfl,h3⟩:=xP.yR h;clear h;obtain⟨va3,vc3,rfl,vl3,vm3,R3,HX3⟩:=oI h3;clear h3;have HB0:=xL (show Below w.heap.size w (w.alloc (.cells #[.int .i64 x.zC,.int .i64 x.fA,.int .i64 x.fB,(.slice va3 x.zK.length vc3)] 120)) from zR.alloc zJ _);have HK0:=xL (Bk.born w 120 #[.int .i64 x.zC,.int .i64 x.fA,.int .i64 x.fB,(.slice va3 x.zK.length vc3)]);have hB0:=HB0.out;have ka0:=HK0.out.cell
 go_enter Tryz.func155,Tryz.ntmps155
 by_cases q0:inB x.zC 1 17=true
 rotate_left
 ·have q0':inB x.zC 1 17=false:=by simpa using q0
  go_wp2_with (go_at_call 168;refine(c_isKind _ _).mono ?_;rintro e w' ⟨rfl,rfl⟩)
  go_ret
  exact⟨yK (xE fun h=>q0 h.kind).symm,HB0.out⟩
 have hk:=xI.1 q0;obtain⟨i,hi,hki⟩: ∃ i:Nat,i<17∧x.zC=(i:Int)+1:=⟨(x.zC - 1).toNat,by omega,by omega⟩;obtain⟨r0,r1,r2,r3,r4,r5⟩:=kndCells_at hi;generalize hK:kndL.getD i ⟨0,0,0,false,false⟩=K at *;generalize kndName i=nm at *;have e1:IntKind.i64.wrap (x.zC - 1)=(i:Int):=by rw[IntWalk.i64_in _ zM];omega
 have HF:vU x.zC=K:=by rw[←hK,hki];unfold vU;congr 1;omega
 have HKF:=xL HF;have HKI:=xL hki;clear HF hki hK hk;have n0:(0:Int)≤(i:Int):=by omega
 have n1:(i:Int)<17:=by omega
 go_wp2_with (go_at_call 168;refine(c_isKind _ _).mono ?_;rintro e w' ⟨rfl,rfl⟩)
 rename_i Q1 K1 hK1
 have REST: ∀ (p g:Nat) (W:World),Bk W w.heap.size 120 #[.int .i64 x.zC,.int .i64 x.fA,.int .i64 x.fB,(.slice va3 x.zK.length vc3)]→Bk W p 201 #[.string nm,.int .i64 K.inputs,.int .i64 K.low,.int .i64 K.high,.bool K.linear,.bool K.hasB]→Below w.heap.size w W→K1 { tmps:= #[.agg #[.int .i64 x.zC,.int .i64 x.fA,.int .i64 x.fB,(.slice va3 x.zK.length vc3)],.int .i64 tables,.pointer (some ⟨w.heap.size,0,none⟩),undef,.bool false,.pointer (some ⟨p,0,none⟩),undef,undef,.pointer (some ⟨w.heap.size,0,none⟩),.int .i64 x.zC,.bool true,.bool false,.slice (some ⟨g,0,none⟩) 17 17,.pointer (some ⟨w.heap.size,0,none⟩),.int .i64 x.zC,.int .i64 (i:Int),.pointer (some ⟨g,i * 6,none⟩),.agg #[.string nm,.int .i64 K.inputs,.int .i64 K.low,.int .i64 K.high,.bool K.linear,.bool K.hasB],undef,undef,undef,undef,undef,undef,undef,undef,undef,undef,undef,undef,undef,undef,undef,undef,undef,undef,undef,undef,undef,undef,undef,undef,undef,undef,undef,undef,undef,undef,undef,undef,undef,undef,undef,undef,undef,undef,undef,undef,undef,undef,undef,undef,undef,undef,undef,undef,undef,undef,undef,undef,undef,undef,undef,undef,undef,undef,undef,undef,undef,undef,undef,undef,undef,undef,undef,undef,undef,undef],defers:= [] } W:=by
  intro p g W hbk hbp hbw;have HK:=xL hbk;have HP:=xL hbp;have HB:=xL hbw;clear hbk hbp hbw r0 r1 r2 r3 r4 r5 hB0 ka0;have ka:=HK.out.cell;have kp:=HP.out.cell;have hsz:=HB.out.size;have la:=HK.out.lt;have lp:=HP.out.lt;refine hK1 _ _ ?_;by_cases a0:K.low≤K.high
  ·have a1:decide (K.low≤K.high)=true:=decide_eq_true a0
   go_wp2_with (go_at_call 47;refine(xU _ _ _ _).mono ?_;rintro e w' ⟨rfl,rfl⟩)
   refine(c_hasA _ _ _ _ _ _ _).mono ?_;rintro e w3 ⟨rfl,hb⟩;rw[a1];replace HK:=xL (HK.out.below hb la);replace HP:=xL (HP.out.below hb lp);replace HB:=xL (yM HB.out HB.out.size hb);clear hb ka kp la lp hsz;have ka:=HK.out.cell;have kp:=HP.out.cell;have hsz:=HB.out.size;have la:=HK.out.lt;have lp:=HP.out.lt;by_cases q1:inB x.fA K.low K.high=true
   rotate_left
   ·have q1':inB x.fA K.low K.high=false:=by simpa using q1
    go_wp2_with (go_at_call 47;refine(xU _ _ _ _).mono ?_;rintro e w' ⟨rfl,rfl⟩)
    go_ret
    exact⟨yK (xE fun h=>by have h1:=h.a;rw[HKF.out,if_pos a0] at h1;exact q1 h1).symm,HB.out⟩
   have HA:=xL (show if K.low≤K.high then inB x.fA K.low K.high=true else x.fA=0 by rw[if_pos a0];exact q1);go_wp2_with (go_at_call 47;refine(xU _ _ _ _).mono ?_;rintro e w' ⟨rfl,rfl⟩)
   refine(c_hasA _ _ _ _ _ _ _).mono ?_;rintro e w4 ⟨rfl,hb⟩;rw[a1];replace HK:=xL (HK.out.below hb la);replace HP:=xL (HP.out.below hb lp);replace HB:=xL (yM HB.out HB.out.size hb);clear hb ka kp la lp hsz;have ka:=HK.out.cell;have kp:=HP.out.cell;have hsz:=HB.out.size;have la:=HK.out.lt;have lp:=HP.out.lt
   cases hB:K.hasB
   ·have hbq:=hB
    by_cases q2:x.fB=0
    rotate_left
    ·have q2':(x.fB != 0)=true:=uQ q2;have Q2:=xL q2;clear q2
     go_wp2_with (go_at_call 47;refine(xU _ _ _ _).mono ?_;rintro e w' ⟨rfl,rfl⟩)
     go_ret
     exact⟨yK (xE fun h=>by have h1:=h.b;rw[HKF.out,hB] at h1;exact Q2.out h1).symm,HB.out⟩
    have q2':(x.fB != 0)=false:=uT q2;have Q2:=xL q2;clear q2;go_wp2_with (go_at_call 47;refine(xU _ _ _ _).mono ?_;rintro e w' ⟨rfl,rfl⟩)
    go_loop [63] (fun i=> ∃ k:Nat,k≤x.zK.length∧i= .int .i64 k∧vF x.zK (fun _ f=>inB f 0 23=true) k) (fun i=>x.zK.length - (intOf i).toNat)
    case atStart=>exact⟨0,Nat.zero_le _,rfl,vF.zero⟩
    case round=>
     obtain⟨k,hk,rfl,hs⟩:=hrel;have HS:=xL hs;clear hs;by_cases hlt:k<x.zK.length
     ·have hgk:=gE hlt
      obtain⟨b1,off,hA,hb1,hc0⟩:=HX3.out k x.zK[k] hgk;subst hA;generalize x.zK[k]=y at *;have HG:=xL hgk;have hcell:=(HB.out.cell hb1).trans hc0;have hq1:b1<w4.heap.size:=zW hb1 HB.out.size;clear hgk hc0;by_cases q3:inB y 0 23=true
      ·go_wp2_with (go_at_call 47;refine(xU _ _ _ _).mono ?_;rintro e w' ⟨rfl,rfl⟩)
       go_round
       case rel=>exact⟨k+1,by omega,by go_num,HS.out.step HG.out q3⟩
       case measure=>simp[intOf];omega
      ·have q3':inB y 0 23=false:=by simpa using q3
       go_wp2_with (go_at_call 47;refine(xU _ _ _ _).mono ?_;rintro e w' ⟨rfl,rfl⟩)
       go_ret
       exact⟨yK (xE fun h=>q3 (h.from_ k y HG.out)).symm,HB.out⟩
     have hall:=xL (HS.out.all zM);clear HS;go_wp2;have HW:=xL (Below.refl w4.heap.size w4);by_cases c1:(x.zK.length:Int)=K.inputs
     rotate_left
     ·have c1':((x.zK.length:Int) == K.inputs)=false:=yX c1;have C1:=xL c1;clear c1
      have g0:=xK HK.out;have g1:=xK HP.out;refine rB ?_
      repeat(first|go_big_quiet_skip|(go_big_quiet_want;go_big_quiet_op;first|go_big_quiet_on|(apply Exists.intro;refine⟨fun _=>?_,?_⟩;(· (go_at_call 154;exact Calls.yN (vZ _ x.zK _ (Rd.below R3.out (yM HB.out HB.out.size (yJ w4 _))))));go_big_quiet_on)))
      refine wpQuiet_nil ?_;rintro w9 ⟨uu,rfl⟩;have hb9:=yJ w4 uu;generalize bel w4 uu=w9 at *;have HB9:=xL (yM HB.out HB.out.size hb9);clear hb9 g0 g1;go_wp2;go_ret
      exact⟨yK (xE fun h=>C1.out (by have:=h.arity;rwa [HKF.out] at this)).symm,HB9.out⟩
     have c1':((x.zK.length:Int) == K.inputs)=true:=yY c1;have C1:=xL c1;clear c1
     skip
     by_cases c2:x.zC=13
     ·have c2':(x.zC != 13)=false:=uT c2;have C2:=xL c2;clear c2
      by_cases c3:x.fA<tables
      ·have c3':decide (x.fA<tables)=true:=decide_eq_true c3;have C3:=xL c3
       have g0:=xK HK.out;have g1:=xK HP.out;refine rB ?_
       repeat(first|go_big_quiet_skip|(go_big_quiet_want;go_big_quiet_op;first|go_big_quiet_on|(apply Exists.intro;refine⟨fun _=>?_,?_⟩;(· (go_at_call 154;exact Calls.yN (vZ _ x.zK _ (Rd.below R3.out (yM HB.out HB.out.size (yJ w4 _))))));go_big_quiet_on)))
       refine wpQuiet_nil ?_;rintro w9 ⟨uu,rfl⟩;have hb9:=yJ w4 uu;generalize bel w4 uu=w9 at *;have HB9:=xL (yM HB.out HB.out.size hb9);clear hb9 g0 g1;go_wp2;go_ret
       exact⟨yK (xG ⟨q0,by rw[HKF.out];exact HA.out,by rw[HKF.out,hB];exact Q2.out,hall.out,by rw[HKF.out];exact C1.out,fun _=>C3.out⟩).symm,HB9.out⟩
      ·have c3':decide (x.fA<tables)=false:=decide_eq_false c3;have C3:=xL c3
       have g0:=xK HK.out;have g1:=xK HP.out;refine rB ?_
       repeat(first|go_big_quiet_skip|(go_big_quiet_want;go_big_quiet_op;first|go_big_quiet_on|(apply Exists.intro;refine⟨fun _=>?_,?_⟩;(· (go_at_call 154;exact Calls.yN (vZ _ x.zK _ (Rd.below R3.out (yM HB.out HB.out.size (yJ w4 _))))));go_big_quiet_on)))
       refine wpQuiet_nil ?_;rintro w9 ⟨uu,rfl⟩;have hb9:=yJ w4 uu;generalize bel w4 uu=w9 at *;have HB9:=xL (yM HB.out HB.out.size hb9);clear hb9 g0 g1;go_wp2;go_ret
       exact⟨yK (xE fun h=>by have:=C3.out;have:=h.table C2.out;omega).symm,HB9.out⟩
     have c2':(x.zC != 13)=true:=uQ c2;have C2:=xL c2;clear c2;have g0:=xK HK.out;have g1:=xK HP.out;refine rB ?_
     repeat(first|go_big_quiet_skip|(go_big_quiet_want;go_big_quiet_op;first|go_big_quiet_on|(apply Exists.intro;refine⟨fun _=>?_,?_⟩;(· (go_at_call 154;exact Calls.yN (vZ _ x.zK _ (Rd.below R3.out (yM HB.out HB.out.size (yJ w4 _))))));go_big_quiet_on)))
     refine wpQuiet_nil ?_;rintro w9 ⟨uu,rfl⟩;have hb9:=yJ w4 uu;generalize bel w4 uu=w9 at *;have HB9:=xL (yM HB.out HB.out.size hb9);clear hb9 g0 g1;go_wp2;go_ret
     exact⟨yK (xG ⟨q0,by rw[HKF.out];exact HA.out,by rw[HKF.out,hB];exact Q2.out,hall.out,by rw[HKF.out];exact C1.out,fun h=>absurd h C2.out⟩).symm,HB9.out⟩
   ·have hbq:=hB
    by_cases q2:inB x.fB 1 16=true
    rotate_left
    ·have q2':inB x.fB 1 16=false:=(by simpa using q2);have Q2:=xL q2
     go_wp2_with (go_at_call 47;refine(xU _ _ _ _).mono ?_;rintro e w' ⟨rfl,rfl⟩)
     go_ret
     exact⟨yK (xE fun h=>by have h1:=h.b;rw[HKF.out,hB] at h1;exact q2 h1).symm,HB.out⟩
    have Q2:=xL q2;go_wp2_with (go_at_call 47;refine(xU _ _ _ _).mono ?_;rintro e w' ⟨rfl,rfl⟩)
    go_loop [63] (fun i=> ∃ k:Nat,k≤x.zK.length∧i= .int .i64 k∧vF x.zK (fun _ f=>inB f 0 23=true) k) (fun i=>x.zK.length - (intOf i).toNat)
    case atStart=>exact⟨0,Nat.zero_le _,rfl,vF.zero⟩
    case round=>
     obtain⟨k,hk,rfl,hs⟩:=hrel;have HS:=xL hs;clear hs;by_cases hlt:k<x.zK.length
     ·have hgk:=gE hlt
      obtain⟨b1,off,hA,hb1,hc0⟩:=HX3.out k x.zK[k] hgk;subst hA;generalize x.zK[k]=y at *;have HG:=xL hgk;have hcell:=(HB.out.cell hb1).trans hc0;have hq1:b1<w4.heap.size:=zW hb1 HB.out.size;clear hgk hc0;by_cases q3:inB y 0 23=true
      ·go_wp2_with (go_at_call 47;refine(xU _ _ _ _).mono ?_;rintro e w' ⟨rfl,rfl⟩)
       go_round
       case rel=>exact⟨k+1,by omega,by go_num,HS.out.step HG.out q3⟩
       case measure=>simp[intOf];omega
      ·have q3':inB y 0 23=false:=by simpa using q3
       go_wp2_with (go_at_call 47;refine(xU _ _ _ _).mono ?_;rintro e w' ⟨rfl,rfl⟩)
       go_ret
       exact⟨yK (xE fun h=>q3 (h.from_ k y HG.out)).symm,HB.out⟩
     have hall:=xL (HS.out.all zM);clear HS;go_wp2;have HW:=xL (Below.refl w4.heap.size w4);by_cases c1:(x.zK.length:Int)=K.inputs
     rotate_left
     ·have c1':((x.zK.length:Int) == K.inputs)=false:=yX c1;have C1:=xL c1;clear c1
      have g0:=xK HK.out;have g1:=xK HP.out;refine rB ?_
      repeat(first|go_big_quiet_skip|(go_big_quiet_want;go_big_quiet_op;first|go_big_quiet_on|(apply Exists.intro;refine⟨fun _=>?_,?_⟩;(· (go_at_call 154;exact Calls.yN (vZ _ x.zK _ (Rd.below R3.out (yM HB.out HB.out.size (yJ w4 _))))));go_big_quiet_on)))
      refine wpQuiet_nil ?_;rintro w9 ⟨uu,rfl⟩;have hb9:=yJ w4 uu;generalize bel w4 uu=w9 at *;have HB9:=xL (yM HB.out HB.out.size hb9);clear hb9 g0 g1;go_wp2;go_ret
      exact⟨yK (xE fun h=>C1.out (by have:=h.arity;rwa [HKF.out] at this)).symm,HB9.out⟩
     have c1':((x.zK.length:Int) == K.inputs)=true:=yY c1;have C1:=xL c1;clear c1
     skip
     by_cases c2:x.zC=13
     ·have c2':(x.zC != 13)=false:=uT c2;have C2:=xL c2;clear c2
      by_cases c3:x.fA<tables
      ·have c3':decide (x.fA<tables)=true:=decide_eq_true c3;have C3:=xL c3
       have g0:=xK HK.out;have g1:=xK HP.out;refine rB ?_
       repeat(first|go_big_quiet_skip|(go_big_quiet_want;go_big_quiet_op;first|go_big_quiet_on|(apply Exists.intro;refine⟨fun _=>?_,?_⟩;(· (go_at_call 154;exact Calls.yN (vZ _ x.zK _ (Rd.below R3.out (yM HB.out HB.out.size (yJ w4 _))))));go_big_quiet_on)))
       refine wpQuiet_nil ?_;rintro w9 ⟨uu,rfl⟩;have hb9:=yJ w4 uu;generalize bel w4 uu=w9 at *;have HB9:=xL (yM HB.out HB.out.size hb9);clear hb9 g0 g1;go_wp2;go_ret
       exact⟨yK (xG ⟨q0,by rw[HKF.out];exact HA.out,by rw[HKF.out,hB];exact Q2.out,hall.out,by rw[HKF.out];exact C1.out,fun _=>C3.out⟩).symm,HB9.out⟩
      ·have c3':decide (x.fA<tables)=false:=decide_eq_false c3;have C3:=xL c3
       have g0:=xK HK.out;have g1:=xK HP.out;refine rB ?_
       repeat(first|go_big_quiet_skip|(go_big_quiet_want;go_big_quiet_op;first|go_big_quiet_on|(apply Exists.intro;refine⟨fun _=>?_,?_⟩;(· (go_at_call 154;exact Calls.yN (vZ _ x.zK _ (Rd.below R3.out (yM HB.out HB.out.size (yJ w4 _))))));go_big_quiet_on)))
       refine wpQuiet_nil ?_;rintro w9 ⟨uu,rfl⟩;have hb9:=yJ w4 uu;generalize bel w4 uu=w9 at *;have HB9:=xL (yM HB.out HB.out.size hb9);clear hb9 g0 g1;go_wp2;go_ret
       exact⟨yK (xE fun h=>by have:=C3.out;have:=h.table C2.out;omega).symm,HB9.out⟩
     have c2':(x.zC != 13)=true:=uQ c2;have C2:=xL c2;clear c2;have g0:=xK HK.out;have g1:=xK HP.out;refine rB ?_
     repeat(first|go_big_quiet_skip|(go_big_quiet_want;go_big_quiet_op;first|go_big_quiet_on|(apply Exists.intro;refine⟨fun _=>?_,?_⟩;(· (go_at_call 154;exact Calls.yN (vZ _ x.zK _ (Rd.below R3.out (yM HB.out HB.out.size (yJ w4 _))))));go_big_quiet_on)))
     refine wpQuiet_nil ?_;rintro w9 ⟨uu,rfl⟩;have hb9:=yJ w4 uu;generalize bel w4 uu=w9 at *;have HB9:=xL (yM HB.out HB.out.size hb9);clear hb9 g0 g1;go_wp2;go_ret
     exact⟨yK (xG ⟨q0,by rw[HKF.out];exact HA.out,by rw[HKF.out,hB];exact Q2.out,hall.out,by rw[HKF.out];exact C1.out,fun h=>absurd h C2.out⟩).symm,HB9.out⟩
  have a1:decide (K.low≤K.high)=false:=decide_eq_false a0;have A0:=xL a0;clear a0;go_wp2_with (go_at_call 47;refine(xU _ _ _ _).mono ?_;rintro e w' ⟨rfl,rfl⟩)
  refine(c_hasA _ _ _ _ _ _ _).mono ?_;rintro e w3 ⟨rfl,hb⟩;rw[a1];replace HK:=xL (HK.out.below hb la);replace HP:=xL (HP.out.below hb lp);replace HB:=xL (yM HB.out HB.out.size hb);clear hb ka kp la lp hsz;have ka:=HK.out.cell;have kp:=HP.out.cell;have hsz:=HB.out.size;have la:=HK.out.lt;have lp:=HP.out.lt;go_wp2_with (go_at_call 47;refine(xU _ _ _ _).mono ?_;rintro e w' ⟨rfl,rfl⟩)
  refine(c_hasA _ _ _ _ _ _ _).mono ?_;rintro e w4 ⟨rfl,hb⟩;rw[a1];replace HK:=xL (HK.out.below hb la);replace HP:=xL (HP.out.below hb lp);replace HB:=xL (yM HB.out HB.out.size hb);clear hb ka kp la lp hsz;have ka:=HK.out.cell;have kp:=HP.out.cell;have hsz:=HB.out.size;have la:=HK.out.lt;have lp:=HP.out.lt;by_cases q1:x.fA=0
  rotate_left
  ·have q1':(x.fA != 0)=true:=uQ q1;have Q1:=xL q1;clear q1
   go_wp2_with (go_at_call 47;refine(xU _ _ _ _).mono ?_;rintro e w' ⟨rfl,rfl⟩)
   go_ret
   exact⟨yK (xE fun h=>by have h1:=h.a;rw[HKF.out,if_neg (by have:=A0.out;omega)] at h1;exact Q1.out h1).symm,HB.out⟩
  have q1':(x.fA != 0)=false:=uT q1;have HA:=xL (show if K.low≤K.high then inB x.fA K.low K.high=true else x.fA=0 by rw[if_neg (by have:=A0.out;omega)];exact q1);clear q1
  cases hB:K.hasB
  ·have hbq:=hB
   by_cases q2:x.fB=0
   rotate_left
   ·have q2':(x.fB != 0)=true:=uQ q2;have Q2:=xL q2;clear q2
    go_wp2_with (go_at_call 47;refine(xU _ _ _ _).mono ?_;rintro e w' ⟨rfl,rfl⟩)
    go_ret
    exact⟨yK (xE fun h=>by have h1:=h.b;rw[HKF.out,hB] at h1;exact Q2.out h1).symm,HB.out⟩
   have q2':(x.fB != 0)=false:=uT q2;have Q2:=xL q2;clear q2;go_wp2_with (go_at_call 47;refine(xU _ _ _ _).mono ?_;rintro e w' ⟨rfl,rfl⟩)
   go_loop [63] (fun i=> ∃ k:Nat,k≤x.zK.length∧i= .int .i64 k∧vF x.zK (fun _ f=>inB f 0 23=true) k) (fun i=>x.zK.length - (intOf i).toNat)
   case atStart=>exact⟨0,Nat.zero_le _,rfl,vF.zero⟩
   case round=>
    obtain⟨k,hk,rfl,hs⟩:=hrel;have HS:=xL hs;clear hs;by_cases hlt:k<x.zK.length
    ·have hgk:=gE hlt
     obtain⟨b1,off,hA,hb1,hc0⟩:=HX3.out k x.zK[k] hgk;subst hA;generalize x.zK[k]=y at *;have HG:=xL hgk;have hcell:=(HB.out.cell hb1).trans hc0;have hq1:b1<w4.heap.size:=zW hb1 HB.out.size;clear hgk hc0;by_cases q3:inB y 0 23=true
     ·go_wp2_with (go_at_call 47;refine(xU _ _ _ _).mono ?_;rintro e w' ⟨rfl,rfl⟩)
      go_round
      case rel=>exact⟨k+1,by omega,by go_num,HS.out.step HG.out q3⟩
      case measure=>simp[intOf];omega
     ·have q3':inB y 0 23=false:=by simpa using q3
      go_wp2_with (go_at_call 47;refine(xU _ _ _ _).mono ?_;rintro e w' ⟨rfl,rfl⟩)
      go_ret
      exact⟨yK (xE fun h=>q3 (h.from_ k y HG.out)).symm,HB.out⟩
    have hall:=xL (HS.out.all zM);clear HS;go_wp2;have HW:=xL (Below.refl w4.heap.size w4);by_cases c1:(x.zK.length:Int)=K.inputs
    rotate_left
    ·have c1':((x.zK.length:Int) == K.inputs)=false:=yX c1;have C1:=xL c1;clear c1
     have g0:=xK HK.out;have g1:=xK HP.out;refine rB ?_
     repeat(first|go_big_quiet_skip|(go_big_quiet_want;go_big_quiet_op;first|go_big_quiet_on|(apply Exists.intro;refine⟨fun _=>?_,?_⟩;(· (go_at_call 154;exact Calls.yN (vZ _ x.zK _ (Rd.below R3.out (yM HB.out HB.out.size (yJ w4 _))))));go_big_quiet_on)))
     refine wpQuiet_nil ?_;rintro w9 ⟨uu,rfl⟩;have hb9:=yJ w4 uu;generalize bel w4 uu=w9 at *;have HB9:=xL (yM HB.out HB.out.size hb9);clear hb9 g0 g1;go_wp2;go_ret
     exact⟨yK (xE fun h=>C1.out (by have:=h.arity;rwa [HKF.out] at this)).symm,HB9.out⟩
    have c1':((x.zK.length:Int) == K.inputs)=true:=yY c1;have C1:=xL c1;clear c1
    skip
    by_cases c2:x.zC=13
    ·have c2':(x.zC != 13)=false:=uT c2;have C2:=xL c2;clear c2
     by_cases c3:x.fA<tables
     ·have c3':decide (x.fA<tables)=true:=decide_eq_true c3;have C3:=xL c3
      have g0:=xK HK.out;have g1:=xK HP.out;refine rB ?_
      repeat(first|go_big_quiet_skip|(go_big_quiet_want;go_big_quiet_op;first|go_big_quiet_on|(apply Exists.intro;refine⟨fun _=>?_,?_⟩;(· (go_at_call 154;exact Calls.yN (vZ _ x.zK _ (Rd.below R3.out (yM HB.out HB.out.size (yJ w4 _))))));go_big_quiet_on)))
      refine wpQuiet_nil ?_;rintro w9 ⟨uu,rfl⟩;have hb9:=yJ w4 uu;generalize bel w4 uu=w9 at *;have HB9:=xL (yM HB.out HB.out.size hb9);clear hb9 g0 g1;go_wp2;go_ret
      exact⟨yK (xG ⟨q0,by rw[HKF.out];exact HA.out,by rw[HKF.out,hB];exact Q2.out,hall.out,by rw[HKF.out];exact C1.out,fun _=>C3.out⟩).symm,HB9.out⟩
     ·have c3':decide (x.fA<tables)=false:=decide_eq_false c3;have C3:=xL c3
      have g0:=xK HK.out;have g1:=xK HP.out;refine rB ?_
      repeat(first|go_big_quiet_skip|(go_big_quiet_want;go_big_quiet_op;first|go_big_quiet_on|(apply Exists.intro;refine⟨fun _=>?_,?_⟩;(· (go_at_call 154;exact Calls.yN (vZ _ x.zK _ (Rd.below R3.out (yM HB.out HB.out.size (yJ w4 _))))));go_big_quiet_on)))
      refine wpQuiet_nil ?_;rintro w9 ⟨uu,rfl⟩;have hb9:=yJ w4 uu;generalize bel w4 uu=w9 at *;have HB9:=xL (yM HB.out HB.out.size hb9);clear hb9 g0 g1;go_wp2;go_ret
      exact⟨yK (xE fun h=>by have:=C3.out;have:=h.table C2.out;omega).symm,HB9.out⟩
    have c2':(x.zC != 13)=true:=uQ c2;have C2:=xL c2;clear c2;have g0:=xK HK.out;have g1:=xK HP.out;refine rB ?_
    repeat(first|go_big_quiet_skip|(go_big_quiet_want;go_big_quiet_op;first|go_big_quiet_on|(apply Exists.intro;refine⟨fun _=>?_,?_⟩;(· (go_at_call 154;exact Calls.yN (vZ _ x.zK _ (Rd.below R3.out (yM HB.out HB.out.size (yJ w4 _))))));go_big_quiet_on)))
    refine wpQuiet_nil ?_;rintro w9 ⟨uu,rfl⟩;have hb9:=yJ w4 uu;generalize bel w4 uu=w9 at *;have HB9:=xL (yM HB.out HB.out.size hb9);clear hb9 g0 g1;go_wp2;go_ret
    exact⟨yK (xG ⟨q0,by rw[HKF.out];exact HA.out,by rw[HKF.out,hB];exact Q2.out,hall.out,by rw[HKF.out];exact C1.out,fun h=>absurd h C2.out⟩).symm,HB9.out⟩
  ·have hbq:=hB
   by_cases q2:inB x.fB 1 16=true
   rotate_left
   ·have q2':inB x.fB 1 16=false:=(by simpa using q2);have Q2:=xL q2
    go_wp2_with (go_at_call 47;refine(xU _ _ _ _).mono ?_;rintro e w' ⟨rfl,rfl⟩)
    go_ret
    exact⟨yK (xE fun h=>by have h1:=h.b;rw[HKF.out,hB] at h1;exact q2 h1).symm,HB.out⟩
   have Q2:=xL q2;go_wp2_with (go_at_call 47;refine(xU _ _ _ _).mono ?_;rintro e w' ⟨rfl,rfl⟩)
   go_loop [63] (fun i=> ∃ k:Nat,k≤x.zK.length∧i= .int .i64 k∧vF x.zK (fun _ f=>inB f 0 23=true) k) (fun i=>x.zK.length - (intOf i).toNat)
   case atStart=>exact⟨0,Nat.zero_le _,rfl,vF.zero⟩
   case round=>
    obtain⟨k,hk,rfl,hs⟩:=hrel;have HS:=xL hs;clear hs;by_cases hlt:k<x.zK.length
    ·have hgk:=gE hlt
     obtain⟨b1,off,hA,hb1,hc0⟩:=HX3.out k x.zK[k] hgk;subst hA;generalize x.zK[k]=y at *;have HG:=xL hgk;have hcell:=(HB.out.cell hb1).trans hc0;have hq1:b1<w4.heap.size:=zW hb1 HB.out.size;clear hgk hc0;by_cases q3:inB y 0 23=true
     ·go_wp2_with (go_at_call 47;refine(xU _ _ _ _).mono ?_;rintro e w' ⟨rfl,rfl⟩)
      go_round
      case rel=>exact⟨k+1,by omega,by go_num,HS.out.step HG.out q3⟩
      case measure=>simp[intOf];omega
     ·have q3':inB y 0 23=false:=by simpa using q3
      go_wp2_with (go_at_call 47;refine(xU _ _ _ _).mono ?_;rintro e w' ⟨rfl,rfl⟩)
      go_ret
      exact⟨yK (xE fun h=>q3 (h.from_ k y HG.out)).symm,HB.out⟩
    have hall:=xL (HS.out.all zM);clear HS;go_wp2;have HW:=xL (Below.refl w4.heap.size w4);by_cases c1:(x.zK.length:Int)=K.inputs
    rotate_left
    ·have c1':((x.zK.length:Int) == K.inputs)=false:=yX c1;have C1:=xL c1;clear c1
     have g0:=xK HK.out;have g1:=xK HP.out;refine rB ?_
     repeat(first|go_big_quiet_skip|(go_big_quiet_want;go_big_quiet_op;first|go_big_quiet_on|(apply Exists.intro;refine⟨fun _=>?_,?_⟩;(· (go_at_call 154;exact Calls.yN (vZ _ x.zK _ (Rd.below R3.out (yM HB.out HB.out.size (yJ w4 _))))));go_big_quiet_on)))
     refine wpQuiet_nil ?_;rintro w9 ⟨uu,rfl⟩;have hb9:=yJ w4 uu;generalize bel w4 uu=w9 at *;have HB9:=xL (yM HB.out HB.out.size hb9);clear hb9 g0 g1;go_wp2;go_ret
     exact⟨yK (xE fun h=>C1.out (by have:=h.arity;rwa [HKF.out] at this)).symm,HB9.out⟩
    have c1':((x.zK.length:Int) == K.inputs)=true:=yY c1;have C1:=xL c1;clear c1
    skip
    by_cases c2:x.zC=13
    ·have c2':(x.zC != 13)=false:=uT c2;have C2:=xL c2;clear c2
     by_cases c3:x.fA<tables
     ·have c3':decide (x.fA<tables)=true:=decide_eq_true c3;have C3:=xL c3
      have g0:=xK HK.out;have g1:=xK HP.out;refine rB ?_
      repeat(first|go_big_quiet_skip|(go_big_quiet_want;go_big_quiet_op;first|go_big_quiet_on|(apply Exists.intro;refine⟨fun _=>?_,?_⟩;(· (go_at_call 154;exact Calls.yN (vZ _ x.zK _ (Rd.below R3.out (yM HB.out HB.out.size (yJ w4 _))))));go_big_quiet_on)))
      refine wpQuiet_nil ?_;rintro w9 ⟨uu,rfl⟩;have hb9:=yJ w4 uu;generalize bel w4 uu=w9 at *;have HB9:=xL (yM HB.out HB.out.size hb9);clear hb9 g0 g1;go_wp2;go_ret
      exact⟨yK (xG ⟨q0,by rw[HKF.out];exact HA.out,by rw[HKF.out,hB];exact Q2.out,hall.out,by rw[HKF.out];exact C1.out,fun _=>C3.out⟩).symm,HB9.out⟩
     ·have c3':decide (x.fA<tables)=false:=decide_eq_false c3;have C3:=xL c3
      have g0:=xK HK.out;have g1:=xK HP.out;refine rB ?_
      repeat(first|go_big_quiet_skip|(go_big_quiet_want;go_big_quiet_op;first|go_big_quiet_on|(apply Exists.intro;refine⟨fun _=>?_,?_⟩;(· (go_at_call 154;exact Calls.yN (vZ _ x.zK _ (Rd.below R3.out (yM HB.out HB.out.size (yJ w4 _))))));go_big_quiet_on)))
      refine wpQuiet_nil ?_;rintro w9 ⟨uu,rfl⟩;have hb9:=yJ w4 uu;generalize bel w4 uu=w9 at *;have HB9:=xL (yM HB.out HB.out.size hb9);clear hb9 g0 g1;go_wp2;go_ret
      exact⟨yK (xE fun h=>by have:=C3.out;have:=h.table C2.out;omega).symm,HB9.out⟩
    have c2':(x.zC != 13)=true:=uQ c2;have C2:=xL c2;clear c2;have g0:=xK HK.out;have g1:=xK HP.out;refine rB ?_
    repeat(first|go_big_quiet_skip|(go_big_quiet_want;go_big_quiet_op;first|go_big_quiet_on|(apply Exists.intro;refine⟨fun _=>?_,?_⟩;(· (go_at_call 154;exact Calls.yN (vZ _ x.zK _ (Rd.below R3.out (yM HB.out HB.out.size (yJ w4 _))))));go_big_quiet_on)))
    refine wpQuiet_nil ?_;rintro w9 ⟨uu,rfl⟩;have hb9:=yJ w4 uu;generalize bel w4 uu=w9 at *;have HB9:=xL (yM HB.out HB.out.size hb9);clear hb9 g0 g1;go_wp2;go_ret
    exact⟨yK (xG ⟨q0,by rw[HKF.out];exact HA.out,by rw[HKF.out,hB];exact Q2.out,hall.out,by rw[HKF.out];exact C1.out,fun h=>absurd h C2.out⟩).symm,HB9.out⟩
 go_region_with (go_at_call 169;refine(c_kinds _).mono ?_;rintro e w' ⟨rfl,rfl⟩)
 all_goals first|(exact REST _ _ _ (((HK0.out.alloc _).alloc _).drewN 1) (Bk.drewN (by have:=Bk.born ((w.alloc (.cells #[.int .i64 x.zC,.int .i64 x.fA,.int .i64 x.fB,(.slice va3 x.zK.length vc3)] 120)).alloc (.cells zOz 201)) 201 #[.string nm,.int .i64 K.inputs,.int .i64 K.low,.int .i64 K.high,.bool K.linear,.bool K.hasB];simpa using this) 1) (((HB0.out.alloc zQ _).alloc zQ _).drew))|(exact REST _ _ _ (((HK0.out.alloc _).alloc _).drewN 1) (Bk.drewN (by have:=(Bk.born (w.alloc (.cells #[.int .i64 x.zC,.int .i64 x.fA,.int .i64 x.fB,(.slice va3 x.zK.length vc3)] 120)) 201 #[.string nm,.int .i64 K.inputs,.int .i64 K.low,.int .i64 K.high,.bool K.linear,.bool K.hasB]).alloc (.cells zOz 201);simpa using this) 1) (((HB0.out.alloc zQ _).alloc zQ _).drew))
end
section
open Go.RowKit
theorem c_waitsFor (x:xP) (cs:List Value) (w:World) (h:T.rds w x.fs cs):Calls Tryz.prog 156 #[.agg cs.toArray] w fun e w'=> ∃ u,e= .returned u∧RdI w' u (uF x)∧Below w.heap.size w w':=by
 obtain⟨v3,rfl,h3⟩:=xP.yR h;clear h;obtain⟨va3,vc3,rfl,vl3,vm3,R3,HX3⟩:=oI h3;clear h3;have HB0:=xL (show Below w.heap.size w (w.alloc (.cells #[.int .i64 x.zC,.int .i64 x.fA,.int .i64 x.fB,(.slice va3 x.zK.length vc3)] 120)) from zR.alloc zJ _);have HK0:=xL (Bk.born w 120 #[.int .i64 x.zC,.int .i64 x.fA,.int .i64 x.fB,(.slice va3 x.zK.length vc3)]);have HR:=xL (RdI.below R3.out HB0.out);by_cases h6:x.zC=6
 ·have h6':(x.zC == 6)=true:=yY h6;have H6:=xL h6;clear h6
  go_enter Tryz.func156,Tryz.ntmps156
  go_wp2;go_ret
  exact⟨_,rfl,by unfold uF;rw[if_pos H6.out];exact Rd.nil_ _ _,HB0.out⟩
 ·have h6':(x.zC == 6)=false:=yX h6;have H6:=xL h6;clear h6
  go_enter Tryz.func156,Tryz.ntmps156
  go_wp2;go_ret
  exact⟨_,rfl,by unfold uF;rw[if_neg H6.out];exact HR.out,HB0.out⟩
theorem xUz (x:xQ) (cs:List Value) (w:World) (h:T.rds w x.fs cs):Calls Tryz.prog 125 #[.agg cs.toArray] w fun e w'=>e= .returned (.bool (tf (xOz x)))∧Below w.heap.size w w':=by
 obtain⟨v1,v2,v3,rfl,h1,h2,h3⟩:=xQ.yR h;clear h;obtain⟨va1,vc1,rfl,vl1,vm1,R1,HX1⟩:=oG h1;clear h1;obtain⟨va2,vc2,rfl,vl2,vm2,R2,HX2⟩:=oG h2;clear h2;obtain⟨va3,vc3,rfl,vl3,vm3,R3,HX3⟩:=oI h3;clear h3;have HB0:=xL (show Below w.heap.size w (w.alloc (.cells #[.int .i64 x.zS,(.slice va1 x.zU.length vc1),(.slice va2 x.zH.length vc2),(.slice va3 x.zT.length vc3)] 81)) from zR.alloc zJ _);have HK0:=xL (Bk.born w 81 #[.int .i64 x.zS,(.slice va1 x.zU.length vc1),(.slice va2 x.zH.length vc2),(.slice va3 x.zT.length vc3)])
 go_enter Tryz.func125,Tryz.ntmps125
 by_cases q1:inB x.zS 0 4=true
 rotate_left
 ·have q1':inB x.zS 0 4=false:=(by simpa using q1)
  go_wp2_with (first|(go_at_call 47;refine(xU _ _ _ _).mono ?_;rintro e w' ⟨rfl,rfl⟩)|(go_at_call 152;refine(zVz _ _ _ _ zM).mono ?_;rintro e w' ⟨rfl,rfl⟩)|(go_at_call 153;refine(zIz _ x.zU _ (T.yH R1.out HB0.out)).mono ?_;rintro e w' ⟨rfl,rfl⟩;rw[a2])|(go_at_call 154;refine(vZ _ x.zT _ (Rd.below R3.out HB0.out)).mono ?_;rintro e w' ⟨rfl,rfl⟩)|(go_at_call 50;refine(wO _ x.zT _ _ (Rd.below R3.out HB0.out) zM zM).mono ?_;rintro e w' ⟨rfl,rfl⟩;rw[a5]))
  go_ret
  exact⟨yK (xE fun h=>q1 h.inputs).symm,HB0.out⟩
 skip
 by_cases q2:xNz x.zU
 rotate_left
 ·have a2:=xE q2;have Q2:=xL q2;clear q2
  go_wp2_with (first|(go_at_call 47;refine(xU _ _ _ _).mono ?_;rintro e w' ⟨rfl,rfl⟩)|(go_at_call 152;refine(zVz _ _ _ _ zM).mono ?_;rintro e w' ⟨rfl,rfl⟩)|(go_at_call 153;refine(zIz _ x.zU _ (T.yH R1.out HB0.out)).mono ?_;rintro e w' ⟨rfl,rfl⟩;rw[a2])|(go_at_call 154;refine(vZ _ x.zT _ (Rd.below R3.out HB0.out)).mono ?_;rintro e w' ⟨rfl,rfl⟩)|(go_at_call 50;refine(wO _ x.zT _ _ (Rd.below R3.out HB0.out) zM zM).mono ?_;rintro e w' ⟨rfl,rfl⟩;rw[a5]))
  go_ret
  exact⟨yK (xE fun h=>Q2.out h.tables).symm,HB0.out⟩
 have a2:=xG q2;have Q2:=xL q2;clear q2;by_cases q3:x.zH.length≤24
 rotate_left
 ·have Q3:=xL q3
  go_wp2_with (first|(go_at_call 47;refine(xU _ _ _ _).mono ?_;rintro e w' ⟨rfl,rfl⟩)|(go_at_call 152;refine(zVz _ _ _ _ zM).mono ?_;rintro e w' ⟨rfl,rfl⟩)|(go_at_call 153;refine(zIz _ x.zU _ (T.yH R1.out HB0.out)).mono ?_;rintro e w' ⟨rfl,rfl⟩;rw[a2])|(go_at_call 154;refine(vZ _ x.zT _ (Rd.below R3.out HB0.out)).mono ?_;rintro e w' ⟨rfl,rfl⟩)|(go_at_call 50;refine(wO _ x.zT _ _ (Rd.below R3.out HB0.out) zM zM).mono ?_;rintro e w' ⟨rfl,rfl⟩;rw[a5]))
  go_ret
  exact⟨yK (xE fun h=>q3 h.few).symm,HB0.out⟩
 have Q3:=xL q3;by_cases q4:x.zT.length≤4
 rotate_left
 ·have Q4:=xL q4
  go_wp2_with (first|(go_at_call 47;refine(xU _ _ _ _).mono ?_;rintro e w' ⟨rfl,rfl⟩)|(go_at_call 152;refine(zVz _ _ _ _ zM).mono ?_;rintro e w' ⟨rfl,rfl⟩)|(go_at_call 153;refine(zIz _ x.zU _ (T.yH R1.out HB0.out)).mono ?_;rintro e w' ⟨rfl,rfl⟩;rw[a2])|(go_at_call 154;refine(vZ _ x.zT _ (Rd.below R3.out HB0.out)).mono ?_;rintro e w' ⟨rfl,rfl⟩)|(go_at_call 50;refine(wO _ x.zT _ _ (Rd.below R3.out HB0.out) zM zM).mono ?_;rintro e w' ⟨rfl,rfl⟩;rw[a5]))
  go_ret
  exact⟨yK (xE fun h=>q4 h.outs).symm,HB0.out⟩
 have Q4:=xL q4;by_cases q5:Idx x.zT (x.zH.length:Int)
 rotate_left
 ·have a5:=xE q5;have Q5:=xL q5;clear q5
  go_wp2_with (first|(go_at_call 47;refine(xU _ _ _ _).mono ?_;rintro e w' ⟨rfl,rfl⟩)|(go_at_call 152;refine(zVz _ _ _ _ zM).mono ?_;rintro e w' ⟨rfl,rfl⟩)|(go_at_call 153;refine(zIz _ x.zU _ (T.yH R1.out HB0.out)).mono ?_;rintro e w' ⟨rfl,rfl⟩;rw[a2])|(go_at_call 154;refine(vZ _ x.zT _ (Rd.below R3.out HB0.out)).mono ?_;rintro e w' ⟨rfl,rfl⟩)|(go_at_call 50;refine(wO _ x.zT _ _ (Rd.below R3.out HB0.out) zM zM).mono ?_;rintro e w' ⟨rfl,rfl⟩;rw[a5]))
  go_ret
  exact⟨yK (xE fun h=>Q5.out h.outputs).symm,HB0.out⟩
 have a5:=xG q5;have Q5:=xL q5;clear q5;go_wp2_with (first|(go_at_call 47;refine(xU _ _ _ _).mono ?_;rintro e w' ⟨rfl,rfl⟩)|(go_at_call 152;refine(zVz _ _ _ _ zM).mono ?_;rintro e w' ⟨rfl,rfl⟩)|(go_at_call 153;refine(zIz _ x.zU _ (T.yH R1.out HB0.out)).mono ?_;rintro e w' ⟨rfl,rfl⟩;rw[a2])|(go_at_call 154;refine(vZ _ x.zT _ (Rd.below R3.out HB0.out)).mono ?_;rintro e w' ⟨rfl,rfl⟩)|(go_at_call 50;refine(wO _ x.zT _ _ (Rd.below R3.out HB0.out) zM zM).mono ?_;rintro e w' ⟨rfl,rfl⟩;rw[a5]))
 clear a2 a5
 go_loopw [39] (fun i wr=> ∃ k:Nat,k≤x.zH.length∧i= .int .i64 k∧vF x.zH (fun _ x_1=>NodeOk x_1 (x.zU.length:Int)∧Idx x_1.zK (x.zH.length:Int)∧(x_1.zC=1→x_1.fA<x.zS)) k∧Below (w.alloc (.cells #[.int .i64 x.zS,(.slice va1 x.zU.length vc1),(.slice va2 x.zH.length vc2),(.slice va3 x.zT.length vc3)] 81)).heap.size (w.alloc (.cells #[.int .i64 x.zS,(.slice va1 x.zU.length vc1),(.slice va2 x.zH.length vc2),(.slice va3 x.zT.length vc3)] 81)) wr) (fun i _=>x.zH.length - (intOf i).toNat)
 case atStart=>exact⟨0,Nat.zero_le _,rfl,vF.zero,zR⟩
 case round=>
  obtain⟨k,hk,rfl,hs,hbw⟩:=hrel;have HS:=xL hs;have HW:=xL hbw;have HB:=xL (yM HB0.out HB0.out.size hbw);have HK:=xL (HK0.out.below hbw HK0.out.lt);clear hs hbw;have ka:=HK.out.cell;have la:=HK.out.lt;by_cases hlt:k<x.zH.length
  rotate_left
  ·have hall:=xL (HS.out.all zM);clear HS
   go_wp2;go_ret
   exact⟨yK (xG ⟨q1,Q2.out,Q3.out,Q4.out,Q5.out,hall.out⟩).symm,HB.out⟩
  have hgk:=gE hlt;obtain⟨b1,off,cs1,hA,hb1,hcs,hcell⟩:=HX2.out k x.zH[k] hgk;subst hA;generalize x.zH[k]=y at *;have HG:=xL hgk;clear hgk;obtain⟨u3,rfl,hRY3⟩:=xP.yR (show T.rds _ _ _ by simpa only[xP.t,T.rd] using hcs);have d0:=(HB.out.cell hb1).trans (hcell 0 (.int .i64 y.zC) rfl);have d1:=(HB.out.cell hb1).trans (hcell 1 (.int .i64 y.fA) rfl);have d2:=(HB.out.cell hb1).trans (hcell 2 (.int .i64 y.fB) rfl);have d3:=(HB.out.cell hb1).trans (hcell 3 (u3) rfl);rw[show off+(k * 4+0)=off+k * 4 by omega] at d0;rw[show off+(k * 4+1)=off+k * 4+1 by omega] at d1;rw[show off+(k * 4+2)=off+k * 4+2 by omega] at d2;rw[show off+(k * 4+3)=off+k * 4+3 by omega] at d3;have RY3:=xL (T.yH hRY3 HB.out);clear hRY3;clear hcs hcell;have RY3i:=xL (T.yZ.1 RY3.out);obtain⟨ua3,uc3,rfl,ul3,um3,ux3⟩:=RY3i.out.open_;clear ux3;have hq1:b1<wr.heap.size:=zW hb1 HB.out.size;by_cases p1:NodeOk y (x.zU.length:Int)
  rotate_left
  ·have b1':=xE p1;have P1:=xL p1;clear p1
   have hWb:Below wr.heap.size wr (wr.alloc (.cells #[.int .i64 y.zC,.int .i64 y.fA,.int .i64 y.fB,(.slice ua3 y.zK.length uc3)] 120)):=zR.alloc zJ _;have hNb:=Bk.born wr 120 #[.int .i64 y.zC,.int .i64 y.fA,.int .i64 y.fB,(.slice ua3 y.zK.length uc3)];go_wp2;generalize wr.alloc (.cells #[.int .i64 y.zC,.int .i64 y.fA,.int .i64 y.fB,(.slice ua3 y.zK.length uc3)] 120)=W at *;have HWb:=xL hWb;have HNb:=xL hNb;have HKW:=xL (HK.out.below hWb HK.out.lt);have g0:=xK hNb;have g1:=xK HKW.out;clear hWb hNb;refine rB ?_
   repeat(first|go_big_quiet_skip|(go_big_quiet_want;go_big_quiet_op;first|go_big_quiet_on|(apply Exists.intro;refine⟨fun _=>?_,?_⟩;(· (first|(go_at_call 54;exact Calls.yN (zNz _ _ _ _ zM))|(go_at_call 155;exact Calls.yO ((xTz y _ _ _ (xP.rd_mk (T.yH RY3.out (yM HWb.out HWb.out.size (yJ W _))))).mono (fun e w' h=>by rw[b1'] at h;exact h)))|(go_at_call 50;exact Calls.yN ((wO _ y.zK _ _ (Rd.below RY3i.out (yM HWb.out HWb.out.size (yJ W _))) zM zM).mono (fun e w' h=>by rw[b2'] at h;exact h)))));go_big_quiet_on)))
   refine wpQuiet_nil ?_;rintro w9 ⟨uu,rfl⟩;have hb9:=yJ W uu;generalize bel W uu=w9 at *;have HC:=xL (yM HWb.out HWb.out.size hb9);have HC2:=xL (yM HB.out HB.out.size HC.out);have HC3:=xL (yM HW.out HW.out.size HC.out);clear hb9 g0 g1;go_wp2;go_ret
   exact⟨yK (xE fun h=>P1.out (h.nodes k y HG.out).1).symm,HC2.out⟩
  have b1':=xG p1;have P1:=xL p1;clear p1;by_cases p2:Idx y.zK (x.zH.length:Int)
  rotate_left
  ·have b2':=xE p2;have P2:=xL p2;clear p2
   have hWb:Below wr.heap.size wr (wr.alloc (.cells #[.int .i64 y.zC,.int .i64 y.fA,.int .i64 y.fB,(.slice ua3 y.zK.length uc3)] 120)):=zR.alloc zJ _;have hNb:=Bk.born wr 120 #[.int .i64 y.zC,.int .i64 y.fA,.int .i64 y.fB,(.slice ua3 y.zK.length uc3)];go_wp2;generalize wr.alloc (.cells #[.int .i64 y.zC,.int .i64 y.fA,.int .i64 y.fB,(.slice ua3 y.zK.length uc3)] 120)=W at *;have HWb:=xL hWb;have HNb:=xL hNb;have HKW:=xL (HK.out.below hWb HK.out.lt);have g0:=xK hNb;have g1:=xK HKW.out;clear hWb hNb;refine rB ?_
   repeat(first|go_big_quiet_skip|(go_big_quiet_want;go_big_quiet_op;first|go_big_quiet_on|(apply Exists.intro;refine⟨fun _=>?_,?_⟩;(· (first|(go_at_call 54;exact Calls.yN (zNz _ _ _ _ zM))|(go_at_call 155;exact Calls.yO ((xTz y _ _ _ (xP.rd_mk (T.yH RY3.out (yM HWb.out HWb.out.size (yJ W _))))).mono (fun e w' h=>by rw[b1'] at h;exact h)))|(go_at_call 50;exact Calls.yN ((wO _ y.zK _ _ (Rd.below RY3i.out (yM HWb.out HWb.out.size (yJ W _))) zM zM).mono (fun e w' h=>by rw[b2'] at h;exact h)))));go_big_quiet_on)))
   refine wpQuiet_nil ?_;rintro w9 ⟨uu,rfl⟩;have hb9:=yJ W uu;generalize bel W uu=w9 at *;have HC:=xL (yM HWb.out HWb.out.size hb9);have HC2:=xL (yM HB.out HB.out.size HC.out);have HC3:=xL (yM HW.out HW.out.size HC.out);clear hb9 g0 g1;go_wp2;go_ret
   exact⟨yK (xE fun h=>P2.out (h.nodes k y HG.out).2.1).symm,HC2.out⟩
  have b2':=xG p2;have P2:=xL p2;clear p2;by_cases p3:y.zC=1
  rotate_left
  ·have p3':(y.zC == 1)=false:=yX p3;have P3:=xL p3;clear p3
   have hWb:Below wr.heap.size wr (wr.alloc (.cells #[.int .i64 y.zC,.int .i64 y.fA,.int .i64 y.fB,(.slice ua3 y.zK.length uc3)] 120)):=zR.alloc zJ _;have hNb:=Bk.born wr 120 #[.int .i64 y.zC,.int .i64 y.fA,.int .i64 y.fB,(.slice ua3 y.zK.length uc3)];go_wp2;generalize wr.alloc (.cells #[.int .i64 y.zC,.int .i64 y.fA,.int .i64 y.fB,(.slice ua3 y.zK.length uc3)] 120)=W at *;have HWb:=xL hWb;have HNb:=xL hNb;have HKW:=xL (HK.out.below hWb HK.out.lt);have g0:=xK hNb;have g1:=xK HKW.out;clear hWb hNb;refine rB ?_
   repeat(first|go_big_quiet_skip|(go_big_quiet_want;go_big_quiet_op;first|go_big_quiet_on|(apply Exists.intro;refine⟨fun _=>?_,?_⟩;(· (first|(go_at_call 54;exact Calls.yN (zNz _ _ _ _ zM))|(go_at_call 155;exact Calls.yO ((xTz y _ _ _ (xP.rd_mk (T.yH RY3.out (yM HWb.out HWb.out.size (yJ W _))))).mono (fun e w' h=>by rw[b1'] at h;exact h)))|(go_at_call 50;exact Calls.yN ((wO _ y.zK _ _ (Rd.below RY3i.out (yM HWb.out HWb.out.size (yJ W _))) zM zM).mono (fun e w' h=>by rw[b2'] at h;exact h)))));go_big_quiet_on)))
   refine wpQuiet_nil ?_;rintro w9 ⟨uu,rfl⟩;have hb9:=yJ W uu;generalize bel W uu=w9 at *;have HC:=xL (yM HWb.out HWb.out.size hb9);have HC2:=xL (yM HB.out HB.out.size HC.out);have HC3:=xL (yM HW.out HW.out.size HC.out);clear hb9 g0 g1;go_wp2
   go_roundw
   case rel=>exact⟨k+1,by omega,by go_num,HS.out.step HG.out ⟨P1.out,P2.out,fun h=>absurd h P3.out⟩,HC3.out⟩
   case measure=>simp[intOf];omega
  have p3':(y.zC == 1)=true:=yY p3;have P3:=xL p3;clear p3;by_cases p4:x.zS≤y.fA
  ·have p4':decide (x.zS≤y.fA)=true:=decide_eq_true p4;have P4:=xL p4
   have hWb:Below wr.heap.size wr (wr.alloc (.cells #[.int .i64 y.zC,.int .i64 y.fA,.int .i64 y.fB,(.slice ua3 y.zK.length uc3)] 120)):=zR.alloc zJ _;have hNb:=Bk.born wr 120 #[.int .i64 y.zC,.int .i64 y.fA,.int .i64 y.fB,(.slice ua3 y.zK.length uc3)];go_wp2;generalize wr.alloc (.cells #[.int .i64 y.zC,.int .i64 y.fA,.int .i64 y.fB,(.slice ua3 y.zK.length uc3)] 120)=W at *;have HWb:=xL hWb;have HNb:=xL hNb;have HKW:=xL (HK.out.below hWb HK.out.lt);have g0:=xK hNb;have g1:=xK HKW.out;clear hWb hNb;refine rB ?_
   repeat(first|go_big_quiet_skip|(go_big_quiet_want;go_big_quiet_op;first|go_big_quiet_on|(apply Exists.intro;refine⟨fun _=>?_,?_⟩;(· (first|(go_at_call 54;exact Calls.yN (zNz _ _ _ _ zM))|(go_at_call 155;exact Calls.yO ((xTz y _ _ _ (xP.rd_mk (T.yH RY3.out (yM HWb.out HWb.out.size (yJ W _))))).mono (fun e w' h=>by rw[b1'] at h;exact h)))|(go_at_call 50;exact Calls.yN ((wO _ y.zK _ _ (Rd.below RY3i.out (yM HWb.out HWb.out.size (yJ W _))) zM zM).mono (fun e w' h=>by rw[b2'] at h;exact h)))));go_big_quiet_on)))
   refine wpQuiet_nil ?_;rintro w9 ⟨uu,rfl⟩;have hb9:=yJ W uu;generalize bel W uu=w9 at *;have HC:=xL (yM HWb.out HWb.out.size hb9);have HC2:=xL (yM HB.out HB.out.size HC.out);have HC3:=xL (yM HW.out HW.out.size HC.out);clear hb9 g0 g1;go_wp2;go_ret
   exact⟨yK (xE fun h=>by have:=(h.nodes k y HG.out).2.2 P3.out;have:=P4.out;omega).symm,HC2.out⟩
  have p4':decide (x.zS≤y.fA)=false:=decide_eq_false p4;have P4:=xL p4;have hWb:Below wr.heap.size wr (wr.alloc (.cells #[.int .i64 y.zC,.int .i64 y.fA,.int .i64 y.fB,(.slice ua3 y.zK.length uc3)] 120)):=zR.alloc zJ _;have hNb:=Bk.born wr 120 #[.int .i64 y.zC,.int .i64 y.fA,.int .i64 y.fB,(.slice ua3 y.zK.length uc3)];go_wp2;generalize wr.alloc (.cells #[.int .i64 y.zC,.int .i64 y.fA,.int .i64 y.fB,(.slice ua3 y.zK.length uc3)] 120)=W at *;have HWb:=xL hWb;have HNb:=xL hNb;have HKW:=xL (HK.out.below hWb HK.out.lt);have g0:=xK hNb;have g1:=xK HKW.out;clear hWb hNb;refine rB ?_
  repeat(first|go_big_quiet_skip|(go_big_quiet_want;go_big_quiet_op;first|go_big_quiet_on|(apply Exists.intro;refine⟨fun _=>?_,?_⟩;(· (first|(go_at_call 54;exact Calls.yN (zNz _ _ _ _ zM))|(go_at_call 155;exact Calls.yO ((xTz y _ _ _ (xP.rd_mk (T.yH RY3.out (yM HWb.out HWb.out.size (yJ W _))))).mono (fun e w' h=>by rw[b1'] at h;exact h)))|(go_at_call 50;exact Calls.yN ((wO _ y.zK _ _ (Rd.below RY3i.out (yM HWb.out HWb.out.size (yJ W _))) zM zM).mono (fun e w' h=>by rw[b2'] at h;exact h)))));go_big_quiet_on)))
  refine wpQuiet_nil ?_;rintro w9 ⟨uu,rfl⟩;have hb9:=yJ W uu;generalize bel W uu=w9 at *;have HC:=xL (yM HWb.out HWb.out.size hb9);have HC2:=xL (yM HB.out HB.out.size HC.out);have HC3:=xL (yM HW.out HW.out.size HC.out);clear hb9 g0 g1;go_wp2
  go_roundw
  case rel=>exact⟨k+1,by omega,by go_num,HS.out.step HG.out ⟨P1.out,P2.out,fun _=>by have:=P4.out;omega⟩,HC3.out⟩
  case measure=>simp[intOf];omega
end
end Go.Proofs.YtdcofkabaigjpaaGreat
