/- Contracts: what is valid, by the program: nodes. Contracts: what is valid, by the program: well formed patches. -/
import Derived.Test.YtdcofkabaigjpaaGreatQAdEdits
import Derived.Deep.RegionWith
import Derived.Test.YtdcofkabaigjpaaGreatQAbEdits
set_option linter.unusedVariables false
set_option linter.unusedSimpArgs false
set_option maxHeartbeats 2000000
set_option maxRecDepth 20000
namespace Go.Proofs.YtdcofkabaigjpaaGreat
section
open Go.RowKit
theorem uXz (x:xR) (cs:List Value) (tables:Int) (w:World) (h:T.rds w x.fs cs):Calls Tryz.prog 155 #[.agg cs.toArray,.int .i64 tables] w fun e w'=>e= .returned (.bool (tf (yCz x tables)))∧Below w.heap.size w w':=by
 obtain⟨v3,rfl,h3⟩:=xR.yT h;clear h;obtain⟨va3,vc3,rfl,vl3,vm3,R3,HX3⟩:=oI h3;clear h3;obtain⟨HB0,HK0⟩:=aK w 120 #[.int .i64 x.zD,.int .i64 x.fA,.int .i64 x.fB,(.slice va3 x.zO.length vc3)];have hB0:=HB0.o;have ka0:=HK0.o.cell
 go_enter Tryz.func155,Tryz.ntmps155
 by_cases q0:inB x.zD 1 17=true
 rotate_left
 ·have q0':inB x.zD 1 17=false:=by simpa using q0
  go_wp2_with (go_at_call 168;refine(c_isKind _ _).mono ?_;rintro e w' ⟨rfl,rfl⟩)
  go_ret
  exact⟨yN (xH fun h=>q0 h.kind).symm,HB0.o⟩
 have hk:=xK.1 q0;obtain⟨i,hi,hki⟩: ∃ i:Nat,i<17∧x.zD=(i:Int)+1:=⟨(x.zD - 1).toNat,by omega,by omega⟩;obtain⟨r0,r1,r2,r3,r4,r5⟩:=kndCells_at hi;generalize hK:kndL.getD i ⟨0,0,0,false,false⟩=K at *;generalize kndName i=nm at *;have e1:IntKind.i64.wrap (x.zD - 1)=(i:Int):=by rw[IntWalk.i64_in _ zM];omega
 have HF:uF x.zD=K:=by rw[←hK,hki];unfold uF;congr 1;omega
 have HKF:=xN HF;have HKI:=xN hki;clear HF hki hK hk;have n0:(0:Int)≤(i:Int):=by omega
 have n1:(i:Int)<17:=by omega
 go_wp2_with (go_at_call 168;refine(c_isKind _ _).mono ?_;rintro e w' ⟨rfl,rfl⟩)
 rename_i Q1 K1 hK1
 have REST: ∀ (p g:Nat) (W:World),Bk W w.heap.size 120 #[.int .i64 x.zD,.int .i64 x.fA,.int .i64 x.fB,(.slice va3 x.zO.length vc3)]→Bk W p 201 #[.string nm,.int .i64 K.inputs,.int .i64 K.low,.int .i64 K.high,.bool K.linear,.bool K.hasB]→Below w.heap.size w W→K1 { tmps:= #[.agg #[.int .i64 x.zD,.int .i64 x.fA,.int .i64 x.fB,(.slice va3 x.zO.length vc3)],.int .i64 tables,.pointer (some ⟨w.heap.size,0,none⟩),undef,.bool false,.pointer (some ⟨p,0,none⟩),undef,undef,.pointer (some ⟨w.heap.size,0,none⟩),.int .i64 x.zD,.bool true,.bool false,.slice (some ⟨g,0,none⟩) 17 17,.pointer (some ⟨w.heap.size,0,none⟩),.int .i64 x.zD,.int .i64 (i:Int),.pointer (some ⟨g,i * 6,none⟩),.agg #[.string nm,.int .i64 K.inputs,.int .i64 K.low,.int .i64 K.high,.bool K.linear,.bool K.hasB],undef,undef,undef,undef,undef,undef,undef,undef,undef,undef,undef,undef,undef,undef,undef,undef,undef,undef,undef,undef,undef,undef,undef,undef,undef,undef,undef,undef,undef,undef,undef,undef,undef,undef,undef,undef,undef,undef,undef,undef,undef,undef,undef,undef,undef,undef,undef,undef,undef,undef,undef,undef,undef,undef,undef,undef,undef,undef,undef,undef,undef,undef,undef,undef,undef,undef,undef,undef,undef,undef],defers:= [] } W:=by
  intro p g W hbk hbp hbw;have HK:=xN hbk;have HP:=xN hbp;have HB:=xN hbw;clear hbk hbp hbw r0 r1 r2 r3 r4 r5 hB0 ka0;have ka:=HK.o.cell;have kp:=HP.o.cell;have hsz:=HB.o.size;have la:=HK.o.lt;have lp:=HP.o.lt;refine hK1 _ _ ?_;by_cases a0:K.low≤K.high
  ·have a1:decide (K.low≤K.high)=true:=decide_eq_true a0
   go_wp2_with (go_at_call 47;refine(xX _ _ _ _).mono ?_;rintro e w' ⟨rfl,rfl⟩)
   refine(c_hasA _ _ _ _ _ _ _).mono ?_;rintro e w3 ⟨rfl,hb⟩;rw[a1];replace HK:=xN (HK.o.below hb la);replace HP:=xN (HP.o.below hb lp);replace HB:=xN (yO HB.o HB.o.size hb);clear hb ka kp la lp hsz;have ka:=HK.o.cell;have kp:=HP.o.cell;have hsz:=HB.o.size;have la:=HK.o.lt;have lp:=HP.o.lt;by_cases q1:inB x.fA K.low K.high=true
   rotate_left
   ·have q1':inB x.fA K.low K.high=false:=by simpa using q1
    go_wp2_with (go_at_call 47;refine(xX _ _ _ _).mono ?_;rintro e w' ⟨rfl,rfl⟩)
    go_ret
    exact⟨yN (xH fun h=>by have h1:=h.a;rw[HKF.o,if_pos a0] at h1;exact q1 h1).symm,HB.o⟩
   have HA:=xN (show if K.low≤K.high then inB x.fA K.low K.high=true else x.fA=0 by rw[if_pos a0];exact q1);go_wp2_with (go_at_call 47;refine(xX _ _ _ _).mono ?_;rintro e w' ⟨rfl,rfl⟩)
   refine(c_hasA _ _ _ _ _ _ _).mono ?_;rintro e w4 ⟨rfl,hb⟩;rw[a1];replace HK:=xN (HK.o.below hb la);replace HP:=xN (HP.o.below hb lp);replace HB:=xN (yO HB.o HB.o.size hb);clear hb ka kp la lp hsz;have ka:=HK.o.cell;have kp:=HP.o.cell;have hsz:=HB.o.size;have la:=HK.o.lt;have lp:=HP.o.lt
   cases hB:K.hasB
   ·have hbq:=hB
    by_cases q2:x.fB=0
    rotate_left
    ·have q2':(x.fB != 0)=true:=ySz q2;have Q2:=xN q2;clear q2
     go_wp2_with (go_at_call 47;refine(xX _ _ _ _).mono ?_;rintro e w' ⟨rfl,rfl⟩)
     go_ret
     exact⟨yN (xH fun h=>by have h1:=h.b;rw[HKF.o,hB] at h1;exact Q2.o h1).symm,HB.o⟩
    have q2':(x.fB != 0)=false:=yTz q2;have Q2:=xN q2;clear q2;go_wp2_with (go_at_call 47;refine(xX _ _ _ _).mono ?_;rintro e w' ⟨rfl,rfl⟩)
    go_loop [63] (fun i=> ∃ k:Nat,k≤x.zO.length∧i= .int .i64 k∧vU x.zO (fun _ f=>inB f 0 23=true) k) (fun i=>x.zO.length - (intOf i).toNat)
    case atStart=>exact⟨0,Nat.zero_le _,rfl,vU.zero⟩
    case round=>
     obtain⟨k,hk,rfl,hs⟩:=hrel;have HS:=xN hs;clear hs;by_cases hlt:k<x.zO.length
     ·have hgk:=gE hlt
      obtain⟨b1,off,hA,hb1,hc0⟩:=HX3.o k x.zO[k] hgk;subst hA;generalize x.zO[k]=y at *;have HG:=xN hgk;have hcell:=(HB.o.cell hb1).trans hc0;have hq1:b1<w4.heap.size:=zW hb1 HB.o.size;clear hgk hc0;by_cases q3:inB y 0 23=true
      ·go_wp2_with (go_at_call 47;refine(xX _ _ _ _).mono ?_;rintro e w' ⟨rfl,rfl⟩)
       go_round
       case rel=>exact⟨k+1,by omega,by go_num,HS.o.step HG.o q3⟩
       case measure=>simp[intOf];omega
      ·have q3':inB y 0 23=false:=by simpa using q3
       go_wp2_with (go_at_call 47;refine(xX _ _ _ _).mono ?_;rintro e w' ⟨rfl,rfl⟩)
       go_ret
       exact⟨yN (xH fun h=>q3 (h.from_ k y HG.o)).symm,HB.o⟩
     have hall:=xN (HS.o.all zM);clear HS;go_wp2;have HW:=xN (Below.refl w4.heap.size w4);by_cases c1:(x.zO.length:Int)=K.inputs
     rotate_left
     ·have c1':((x.zO.length:Int) == K.inputs)=false:=yZ c1;have C1:=xN c1;clear c1
      have g0:=xM HK.o;have g1:=xM HP.o;refine rB ?_
      repeat(first|go_big_quiet_skip|(go_big_quiet_want;go_big_quiet_op;first|go_big_quiet_on|(apply Exists.intro;refine⟨fun _=>?_,?_⟩;(· (go_at_call 154;exact Calls.yP (zMz _ x.zO _ (Rd.below R3.o (yO HB.o HB.o.size (yM w4 _))))));go_big_quiet_on)))
      refine wpQuiet_nil ?_;rintro w9 ⟨uu,rfl⟩;have hb9:=yM w4 uu;generalize bel w4 uu=w9 at *;have HB9:=xN (yO HB.o HB.o.size hb9);clear hb9 g0 g1;go_wp2;go_ret
      exact⟨yN (xH fun h=>C1.o (by have:=h.arity;rwa [HKF.o] at this)).symm,HB9.o⟩
     have c1':((x.zO.length:Int) == K.inputs)=true:=xA c1;have C1:=xN c1;clear c1
     skip
     by_cases c2:x.zD=13
     ·have c2':(x.zD != 13)=false:=yTz c2;have C2:=xN c2;clear c2
      by_cases c3:x.fA<tables
      ·have c3':decide (x.fA<tables)=true:=decide_eq_true c3;have C3:=xN c3
       have g0:=xM HK.o;have g1:=xM HP.o;refine rB ?_
       repeat(first|go_big_quiet_skip|(go_big_quiet_want;go_big_quiet_op;first|go_big_quiet_on|(apply Exists.intro;refine⟨fun _=>?_,?_⟩;(· (go_at_call 154;exact Calls.yP (zMz _ x.zO _ (Rd.below R3.o (yO HB.o HB.o.size (yM w4 _))))));go_big_quiet_on)))
       refine wpQuiet_nil ?_;rintro w9 ⟨uu,rfl⟩;have hb9:=yM w4 uu;generalize bel w4 uu=w9 at *;have HB9:=xN (yO HB.o HB.o.size hb9);clear hb9 g0 g1;go_wp2;go_ret
       exact⟨yN (xI ⟨q0,by rw[HKF.o];exact HA.o,by rw[HKF.o,hB];exact Q2.o,hall.o,by rw[HKF.o];exact C1.o,fun _=>C3.o⟩).symm,HB9.o⟩
      ·have c3':decide (x.fA<tables)=false:=decide_eq_false c3;have C3:=xN c3
       have g0:=xM HK.o;have g1:=xM HP.o;refine rB ?_
       repeat(first|go_big_quiet_skip|(go_big_quiet_want;go_big_quiet_op;first|go_big_quiet_on|(apply Exists.intro;refine⟨fun _=>?_,?_⟩;(· (go_at_call 154;exact Calls.yP (zMz _ x.zO _ (Rd.below R3.o (yO HB.o HB.o.size (yM w4 _))))));go_big_quiet_on)))
       refine wpQuiet_nil ?_;rintro w9 ⟨uu,rfl⟩;have hb9:=yM w4 uu;generalize bel w4 uu=w9 at *;have HB9:=xN (yO HB.o HB.o.size hb9);clear hb9 g0 g1;go_wp2;go_ret
       exact⟨yN (xH fun h=>by have:=C3.o;have:=h.table C2.o;omega).symm,HB9.o⟩
     have c2':(x.zD != 13)=true:=ySz c2;have C2:=xN c2;clear c2;have g0:=xM HK.o;have g1:=xM HP.o;refine rB ?_
     repeat(first|go_big_quiet_skip|(go_big_quiet_want;go_big_quiet_op;first|go_big_quiet_on|(apply Exists.intro;refine⟨fun _=>?_,?_⟩;(· (go_at_call 154;exact Calls.yP (zMz _ x.zO _ (Rd.below R3.o (yO HB.o HB.o.size (yM w4 _))))));go_big_quiet_on)))
     refine wpQuiet_nil ?_;rintro w9 ⟨uu,rfl⟩;have hb9:=yM w4 uu;generalize bel w4 uu=w9 at *;have HB9:=xN (yO HB.o HB.o.size hb9);clear hb9 g0 g1;go_wp2;go_ret
     exact⟨yN (xI ⟨q0,by rw[HKF.o];exact HA.o,by rw[HKF.o,hB];exact Q2.o,hall.o,by rw[HKF.o];exact C1.o,fun h=>absurd h C2.o⟩).symm,HB9.o⟩
   ·have hbq:=hB
    by_cases q2:inB x.fB 1 16=true
    rotate_left
    ·have q2':inB x.fB 1 16=false:=(by simpa using q2);have Q2:=xN q2
     go_wp2_with (go_at_call 47;refine(xX _ _ _ _).mono ?_;rintro e w' ⟨rfl,rfl⟩)
     go_ret
     exact⟨yN (xH fun h=>by have h1:=h.b;rw[HKF.o,hB] at h1;exact q2 h1).symm,HB.o⟩
    have Q2:=xN q2;go_wp2_with (go_at_call 47;refine(xX _ _ _ _).mono ?_;rintro e w' ⟨rfl,rfl⟩)
    go_loop [63] (fun i=> ∃ k:Nat,k≤x.zO.length∧i= .int .i64 k∧vU x.zO (fun _ f=>inB f 0 23=true) k) (fun i=>x.zO.length - (intOf i).toNat)
    case atStart=>exact⟨0,Nat.zero_le _,rfl,vU.zero⟩
    case round=>
     obtain⟨k,hk,rfl,hs⟩:=hrel;have HS:=xN hs;clear hs;by_cases hlt:k<x.zO.length
     ·have hgk:=gE hlt
      obtain⟨b1,off,hA,hb1,hc0⟩:=HX3.o k x.zO[k] hgk;subst hA;generalize x.zO[k]=y at *;have HG:=xN hgk;have hcell:=(HB.o.cell hb1).trans hc0;have hq1:b1<w4.heap.size:=zW hb1 HB.o.size;clear hgk hc0;by_cases q3:inB y 0 23=true
      ·go_wp2_with (go_at_call 47;refine(xX _ _ _ _).mono ?_;rintro e w' ⟨rfl,rfl⟩)
       go_round
       case rel=>exact⟨k+1,by omega,by go_num,HS.o.step HG.o q3⟩
       case measure=>simp[intOf];omega
      ·have q3':inB y 0 23=false:=by simpa using q3
       go_wp2_with (go_at_call 47;refine(xX _ _ _ _).mono ?_;rintro e w' ⟨rfl,rfl⟩)
       go_ret
       exact⟨yN (xH fun h=>q3 (h.from_ k y HG.o)).symm,HB.o⟩
     have hall:=xN (HS.o.all zM);clear HS;go_wp2;have HW:=xN (Below.refl w4.heap.size w4);by_cases c1:(x.zO.length:Int)=K.inputs
     rotate_left
     ·have c1':((x.zO.length:Int) == K.inputs)=false:=yZ c1;have C1:=xN c1;clear c1
      have g0:=xM HK.o;have g1:=xM HP.o;refine rB ?_
      repeat(first|go_big_quiet_skip|(go_big_quiet_want;go_big_quiet_op;first|go_big_quiet_on|(apply Exists.intro;refine⟨fun _=>?_,?_⟩;(· (go_at_call 154;exact Calls.yP (zMz _ x.zO _ (Rd.below R3.o (yO HB.o HB.o.size (yM w4 _))))));go_big_quiet_on)))
      refine wpQuiet_nil ?_;rintro w9 ⟨uu,rfl⟩;have hb9:=yM w4 uu;generalize bel w4 uu=w9 at *;have HB9:=xN (yO HB.o HB.o.size hb9);clear hb9 g0 g1;go_wp2;go_ret
      exact⟨yN (xH fun h=>C1.o (by have:=h.arity;rwa [HKF.o] at this)).symm,HB9.o⟩
     have c1':((x.zO.length:Int) == K.inputs)=true:=xA c1;have C1:=xN c1;clear c1
     skip
     by_cases c2:x.zD=13
     ·have c2':(x.zD != 13)=false:=yTz c2;have C2:=xN c2;clear c2
      by_cases c3:x.fA<tables
      ·have c3':decide (x.fA<tables)=true:=decide_eq_true c3;have C3:=xN c3
       have g0:=xM HK.o;have g1:=xM HP.o;refine rB ?_
       repeat(first|go_big_quiet_skip|(go_big_quiet_want;go_big_quiet_op;first|go_big_quiet_on|(apply Exists.intro;refine⟨fun _=>?_,?_⟩;(· (go_at_call 154;exact Calls.yP (zMz _ x.zO _ (Rd.below R3.o (yO HB.o HB.o.size (yM w4 _))))));go_big_quiet_on)))
       refine wpQuiet_nil ?_;rintro w9 ⟨uu,rfl⟩;have hb9:=yM w4 uu;generalize bel w4 uu=w9 at *;have HB9:=xN (yO HB.o HB.o.size hb9);clear hb9 g0 g1;go_wp2;go_ret
       exact⟨yN (xI ⟨q0,by rw[HKF.o];exact HA.o,by rw[HKF.o,hB];exact Q2.o,hall.o,by rw[HKF.o];exact C1.o,fun _=>C3.o⟩).symm,HB9.o⟩
      ·have c3':decide (x.fA<tables)=false:=decide_eq_false c3;have C3:=xN c3
       have g0:=xM HK.o;have g1:=xM HP.o;refine rB ?_
       repeat(first|go_big_quiet_skip|(go_big_quiet_want;go_big_quiet_op;first|go_big_quiet_on|(apply Exists.intro;refine⟨fun _=>?_,?_⟩;(· (go_at_call 154;exact Calls.yP (zMz _ x.zO _ (Rd.below R3.o (yO HB.o HB.o.size (yM w4 _))))));go_big_quiet_on)))
       refine wpQuiet_nil ?_;rintro w9 ⟨uu,rfl⟩;have hb9:=yM w4 uu;generalize bel w4 uu=w9 at *;have HB9:=xN (yO HB.o HB.o.size hb9);clear hb9 g0 g1;go_wp2;go_ret
       exact⟨yN (xH fun h=>by have:=C3.o;have:=h.table C2.o;omega).symm,HB9.o⟩
     have c2':(x.zD != 13)=true:=ySz c2;have C2:=xN c2;clear c2;have g0:=xM HK.o;have g1:=xM HP.o;refine rB ?_
     repeat(first|go_big_quiet_skip|(go_big_quiet_want;go_big_quiet_op;first|go_big_quiet_on|(apply Exists.intro;refine⟨fun _=>?_,?_⟩;(· (go_at_call 154;exact Calls.yP (zMz _ x.zO _ (Rd.below R3.o (yO HB.o HB.o.size (yM w4 _))))));go_big_quiet_on)))
     refine wpQuiet_nil ?_;rintro w9 ⟨uu,rfl⟩;have hb9:=yM w4 uu;generalize bel w4 uu=w9 at *;have HB9:=xN (yO HB.o HB.o.size hb9);clear hb9 g0 g1;go_wp2;go_ret
     exact⟨yN (xI ⟨q0,by rw[HKF.o];exact HA.o,by rw[HKF.o,hB];exact Q2.o,hall.o,by rw[HKF.o];exact C1.o,fun h=>absurd h C2.o⟩).symm,HB9.o⟩
  have a1:decide (K.low≤K.high)=false:=decide_eq_false a0;have A0:=xN a0;clear a0;go_wp2_with (go_at_call 47;refine(xX _ _ _ _).mono ?_;rintro e w' ⟨rfl,rfl⟩)
  refine(c_hasA _ _ _ _ _ _ _).mono ?_;rintro e w3 ⟨rfl,hb⟩;rw[a1];replace HK:=xN (HK.o.below hb la);replace HP:=xN (HP.o.below hb lp);replace HB:=xN (yO HB.o HB.o.size hb);clear hb ka kp la lp hsz;have ka:=HK.o.cell;have kp:=HP.o.cell;have hsz:=HB.o.size;have la:=HK.o.lt;have lp:=HP.o.lt;go_wp2_with (go_at_call 47;refine(xX _ _ _ _).mono ?_;rintro e w' ⟨rfl,rfl⟩)
  refine(c_hasA _ _ _ _ _ _ _).mono ?_;rintro e w4 ⟨rfl,hb⟩;rw[a1];replace HK:=xN (HK.o.below hb la);replace HP:=xN (HP.o.below hb lp);replace HB:=xN (yO HB.o HB.o.size hb);clear hb ka kp la lp hsz;have ka:=HK.o.cell;have kp:=HP.o.cell;have hsz:=HB.o.size;have la:=HK.o.lt;have lp:=HP.o.lt;by_cases q1:x.fA=0
  rotate_left
  ·have q1':(x.fA != 0)=true:=ySz q1;have Q1:=xN q1;clear q1
   go_wp2_with (go_at_call 47;refine(xX _ _ _ _).mono ?_;rintro e w' ⟨rfl,rfl⟩)
   go_ret
   exact⟨yN (xH fun h=>by have h1:=h.a;rw[HKF.o,if_neg (by have:=A0.o;omega)] at h1;exact Q1.o h1).symm,HB.o⟩
  have q1':(x.fA != 0)=false:=yTz q1;have HA:=xN (show if K.low≤K.high then inB x.fA K.low K.high=true else x.fA=0 by rw[if_neg (by have:=A0.o;omega)];exact q1);clear q1
  cases hB:K.hasB
  ·have hbq:=hB
   by_cases q2:x.fB=0
   rotate_left
   ·have q2':(x.fB != 0)=true:=ySz q2;have Q2:=xN q2;clear q2
    go_wp2_with (go_at_call 47;refine(xX _ _ _ _).mono ?_;rintro e w' ⟨rfl,rfl⟩)
    go_ret
    exact⟨yN (xH fun h=>by have h1:=h.b;rw[HKF.o,hB] at h1;exact Q2.o h1).symm,HB.o⟩
   have q2':(x.fB != 0)=false:=yTz q2;have Q2:=xN q2;clear q2;go_wp2_with (go_at_call 47;refine(xX _ _ _ _).mono ?_;rintro e w' ⟨rfl,rfl⟩)
   go_loop [63] (fun i=> ∃ k:Nat,k≤x.zO.length∧i= .int .i64 k∧vU x.zO (fun _ f=>inB f 0 23=true) k) (fun i=>x.zO.length - (intOf i).toNat)
   case atStart=>exact⟨0,Nat.zero_le _,rfl,vU.zero⟩
   case round=>
    obtain⟨k,hk,rfl,hs⟩:=hrel;have HS:=xN hs;clear hs;by_cases hlt:k<x.zO.length
    ·have hgk:=gE hlt
     obtain⟨b1,off,hA,hb1,hc0⟩:=HX3.o k x.zO[k] hgk;subst hA;generalize x.zO[k]=y at *;have HG:=xN hgk;have hcell:=(HB.o.cell hb1).trans hc0;have hq1:b1<w4.heap.size:=zW hb1 HB.o.size;clear hgk hc0;by_cases q3:inB y 0 23=true
     ·go_wp2_with (go_at_call 47;refine(xX _ _ _ _).mono ?_;rintro e w' ⟨rfl,rfl⟩)
      go_round
      case rel=>exact⟨k+1,by omega,by go_num,HS.o.step HG.o q3⟩
      case measure=>simp[intOf];omega
     ·have q3':inB y 0 23=false:=by simpa using q3
      go_wp2_with (go_at_call 47;refine(xX _ _ _ _).mono ?_;rintro e w' ⟨rfl,rfl⟩)
      go_ret
      exact⟨yN (xH fun h=>q3 (h.from_ k y HG.o)).symm,HB.o⟩
    have hall:=xN (HS.o.all zM);clear HS;go_wp2;have HW:=xN (Below.refl w4.heap.size w4);by_cases c1:(x.zO.length:Int)=K.inputs
    rotate_left
    ·have c1':((x.zO.length:Int) == K.inputs)=false:=yZ c1;have C1:=xN c1;clear c1
     have g0:=xM HK.o;have g1:=xM HP.o;refine rB ?_
     repeat(first|go_big_quiet_skip|(go_big_quiet_want;go_big_quiet_op;first|go_big_quiet_on|(apply Exists.intro;refine⟨fun _=>?_,?_⟩;(· (go_at_call 154;exact Calls.yP (zMz _ x.zO _ (Rd.below R3.o (yO HB.o HB.o.size (yM w4 _))))));go_big_quiet_on)))
     refine wpQuiet_nil ?_;rintro w9 ⟨uu,rfl⟩;have hb9:=yM w4 uu;generalize bel w4 uu=w9 at *;have HB9:=xN (yO HB.o HB.o.size hb9);clear hb9 g0 g1;go_wp2;go_ret
     exact⟨yN (xH fun h=>C1.o (by have:=h.arity;rwa [HKF.o] at this)).symm,HB9.o⟩
    have c1':((x.zO.length:Int) == K.inputs)=true:=xA c1;have C1:=xN c1;clear c1
    skip
    by_cases c2:x.zD=13
    ·have c2':(x.zD != 13)=false:=yTz c2;have C2:=xN c2;clear c2
     by_cases c3:x.fA<tables
     ·have c3':decide (x.fA<tables)=true:=decide_eq_true c3;have C3:=xN c3
      have g0:=xM HK.o;have g1:=xM HP.o;refine rB ?_
      repeat(first|go_big_quiet_skip|(go_big_quiet_want;go_big_quiet_op;first|go_big_quiet_on|(apply Exists.intro;refine⟨fun _=>?_,?_⟩;(· (go_at_call 154;exact Calls.yP (zMz _ x.zO _ (Rd.below R3.o (yO HB.o HB.o.size (yM w4 _))))));go_big_quiet_on)))
      refine wpQuiet_nil ?_;rintro w9 ⟨uu,rfl⟩;have hb9:=yM w4 uu;generalize bel w4 uu=w9 at *;have HB9:=xN (yO HB.o HB.o.size hb9);clear hb9 g0 g1;go_wp2;go_ret
      exact⟨yN (xI ⟨q0,by rw[HKF.o];exact HA.o,by rw[HKF.o,hB];exact Q2.o,hall.o,by rw[HKF.o];exact C1.o,fun _=>C3.o⟩).symm,HB9.o⟩
     ·have c3':decide (x.fA<tables)=false:=decide_eq_false c3;have C3:=xN c3
      have g0:=xM HK.o;have g1:=xM HP.o;refine rB ?_
      repeat(first|go_big_quiet_skip|(go_big_quiet_want;go_big_quiet_op;first|go_big_quiet_on|(apply Exists.intro;refine⟨fun _=>?_,?_⟩;(· (go_at_call 154;exact Calls.yP (zMz _ x.zO _ (Rd.below R3.o (yO HB.o HB.o.size (yM w4 _))))));go_big_quiet_on)))
      refine wpQuiet_nil ?_;rintro w9 ⟨uu,rfl⟩;have hb9:=yM w4 uu;generalize bel w4 uu=w9 at *;have HB9:=xN (yO HB.o HB.o.size hb9);clear hb9 g0 g1;go_wp2;go_ret
      exact⟨yN (xH fun h=>by have:=C3.o;have:=h.table C2.o;omega).symm,HB9.o⟩
    have c2':(x.zD != 13)=true:=ySz c2;have C2:=xN c2;clear c2;have g0:=xM HK.o;have g1:=xM HP.o;refine rB ?_
    repeat(first|go_big_quiet_skip|(go_big_quiet_want;go_big_quiet_op;first|go_big_quiet_on|(apply Exists.intro;refine⟨fun _=>?_,?_⟩;(· (go_at_call 154;exact Calls.yP (zMz _ x.zO _ (Rd.below R3.o (yO HB.o HB.o.size (yM w4 _))))));go_big_quiet_on)))
    refine wpQuiet_nil ?_;rintro w9 ⟨uu,rfl⟩;have hb9:=yM w4 uu;generalize bel w4 uu=w9 at *;have HB9:=xN (yO HB.o HB.o.size hb9);clear hb9 g0 g1;go_wp2;go_ret
    exact⟨yN (xI ⟨q0,by rw[HKF.o];exact HA.o,by rw[HKF.o,hB];exact Q2.o,hall.o,by rw[HKF.o];exact C1.o,fun h=>absurd h C2.o⟩).symm,HB9.o⟩
  ·have hbq:=hB
   by_cases q2:inB x.fB 1 16=true
   rotate_left
   ·have q2':inB x.fB 1 16=false:=(by simpa using q2);have Q2:=xN q2
    go_wp2_with (go_at_call 47;refine(xX _ _ _ _).mono ?_;rintro e w' ⟨rfl,rfl⟩)
    go_ret
    exact⟨yN (xH fun h=>by have h1:=h.b;rw[HKF.o,hB] at h1;exact q2 h1).symm,HB.o⟩
   have Q2:=xN q2;go_wp2_with (go_at_call 47;refine(xX _ _ _ _).mono ?_;rintro e w' ⟨rfl,rfl⟩)
   go_loop [63] (fun i=> ∃ k:Nat,k≤x.zO.length∧i= .int .i64 k∧vU x.zO (fun _ f=>inB f 0 23=true) k) (fun i=>x.zO.length - (intOf i).toNat)
   case atStart=>exact⟨0,Nat.zero_le _,rfl,vU.zero⟩
   case round=>
    obtain⟨k,hk,rfl,hs⟩:=hrel;have HS:=xN hs;clear hs;by_cases hlt:k<x.zO.length
    ·have hgk:=gE hlt
     obtain⟨b1,off,hA,hb1,hc0⟩:=HX3.o k x.zO[k] hgk;subst hA;generalize x.zO[k]=y at *;have HG:=xN hgk;have hcell:=(HB.o.cell hb1).trans hc0;have hq1:b1<w4.heap.size:=zW hb1 HB.o.size;clear hgk hc0;by_cases q3:inB y 0 23=true
     ·go_wp2_with (go_at_call 47;refine(xX _ _ _ _).mono ?_;rintro e w' ⟨rfl,rfl⟩)
      go_round
      case rel=>exact⟨k+1,by omega,by go_num,HS.o.step HG.o q3⟩
      case measure=>simp[intOf];omega
     ·have q3':inB y 0 23=false:=by simpa using q3
      go_wp2_with (go_at_call 47;refine(xX _ _ _ _).mono ?_;rintro e w' ⟨rfl,rfl⟩)
      go_ret
      exact⟨yN (xH fun h=>q3 (h.from_ k y HG.o)).symm,HB.o⟩
    have hall:=xN (HS.o.all zM);clear HS;go_wp2;have HW:=xN (Below.refl w4.heap.size w4);by_cases c1:(x.zO.length:Int)=K.inputs
    rotate_left
    ·have c1':((x.zO.length:Int) == K.inputs)=false:=yZ c1;have C1:=xN c1;clear c1
     have g0:=xM HK.o;have g1:=xM HP.o;refine rB ?_
     repeat(first|go_big_quiet_skip|(go_big_quiet_want;go_big_quiet_op;first|go_big_quiet_on|(apply Exists.intro;refine⟨fun _=>?_,?_⟩;(· (go_at_call 154;exact Calls.yP (zMz _ x.zO _ (Rd.below R3.o (yO HB.o HB.o.size (yM w4 _))))));go_big_quiet_on)))
     refine wpQuiet_nil ?_;rintro w9 ⟨uu,rfl⟩;have hb9:=yM w4 uu;generalize bel w4 uu=w9 at *;have HB9:=xN (yO HB.o HB.o.size hb9);clear hb9 g0 g1;go_wp2;go_ret
     exact⟨yN (xH fun h=>C1.o (by have:=h.arity;rwa [HKF.o] at this)).symm,HB9.o⟩
    have c1':((x.zO.length:Int) == K.inputs)=true:=xA c1;have C1:=xN c1;clear c1
    skip
    by_cases c2:x.zD=13
    ·have c2':(x.zD != 13)=false:=yTz c2;have C2:=xN c2;clear c2
     by_cases c3:x.fA<tables
     ·have c3':decide (x.fA<tables)=true:=decide_eq_true c3;have C3:=xN c3
      have g0:=xM HK.o;have g1:=xM HP.o;refine rB ?_
      repeat(first|go_big_quiet_skip|(go_big_quiet_want;go_big_quiet_op;first|go_big_quiet_on|(apply Exists.intro;refine⟨fun _=>?_,?_⟩;(· (go_at_call 154;exact Calls.yP (zMz _ x.zO _ (Rd.below R3.o (yO HB.o HB.o.size (yM w4 _))))));go_big_quiet_on)))
      refine wpQuiet_nil ?_;rintro w9 ⟨uu,rfl⟩;have hb9:=yM w4 uu;generalize bel w4 uu=w9 at *;have HB9:=xN (yO HB.o HB.o.size hb9);clear hb9 g0 g1;go_wp2;go_ret
      exact⟨yN (xI ⟨q0,by rw[HKF.o];exact HA.o,by rw[HKF.o,hB];exact Q2.o,hall.o,by rw[HKF.o];exact C1.o,fun _=>C3.o⟩).symm,HB9.o⟩
     ·have c3':decide (x.fA<tables)=false:=decide_eq_false c3;have C3:=xN c3
      have g0:=xM HK.o;have g1:=xM HP.o;refine rB ?_
      repeat(first|go_big_quiet_skip|(go_big_quiet_want;go_big_quiet_op;first|go_big_quiet_on|(apply Exists.intro;refine⟨fun _=>?_,?_⟩;(· (go_at_call 154;exact Calls.yP (zMz _ x.zO _ (Rd.below R3.o (yO HB.o HB.o.size (yM w4 _))))));go_big_quiet_on)))
      refine wpQuiet_nil ?_;rintro w9 ⟨uu,rfl⟩;have hb9:=yM w4 uu;generalize bel w4 uu=w9 at *;have HB9:=xN (yO HB.o HB.o.size hb9);clear hb9 g0 g1;go_wp2;go_ret
      exact⟨yN (xH fun h=>by have:=C3.o;have:=h.table C2.o;omega).symm,HB9.o⟩
    have c2':(x.zD != 13)=true:=ySz c2;have C2:=xN c2;clear c2;have g0:=xM HK.o;have g1:=xM HP.o;refine rB ?_
    repeat(first|go_big_quiet_skip|(go_big_quiet_want;go_big_quiet_op;first|go_big_quiet_on|(apply Exists.intro;refine⟨fun _=>?_,?_⟩;(· (go_at_call 154;exact Calls.yP (zMz _ x.zO _ (Rd.below R3.o (yO HB.o HB.o.size (yM w4 _))))));go_big_quiet_on)))
    refine wpQuiet_nil ?_;rintro w9 ⟨uu,rfl⟩;have hb9:=yM w4 uu;generalize bel w4 uu=w9 at *;have HB9:=xN (yO HB.o HB.o.size hb9);clear hb9 g0 g1;go_wp2;go_ret
    exact⟨yN (xI ⟨q0,by rw[HKF.o];exact HA.o,by rw[HKF.o,hB];exact Q2.o,hall.o,by rw[HKF.o];exact C1.o,fun h=>absurd h C2.o⟩).symm,HB9.o⟩
 go_region_with (go_at_call 169;refine(c_kinds _).mono ?_;rintro e w' ⟨rfl,rfl⟩)
 all_goals first|(exact REST _ _ _ (((HK0.o.alloc _).alloc _).drewN 1) (Bk.drewN (by have:=Bk.born ((w.alloc (.cells #[.int .i64 x.zD,.int .i64 x.fA,.int .i64 x.fB,(.slice va3 x.zO.length vc3)] 120)).alloc (.cells xLz 201)) 201 #[.string nm,.int .i64 K.inputs,.int .i64 K.low,.int .i64 K.high,.bool K.linear,.bool K.hasB];simpa using this) 1) (((HB0.o.alloc zQ _).alloc zQ _).drew))|(exact REST _ _ _ (((HK0.o.alloc _).alloc _).drewN 1) (Bk.drewN (by have:=(Bk.born (w.alloc (.cells #[.int .i64 x.zD,.int .i64 x.fA,.int .i64 x.fB,(.slice va3 x.zO.length vc3)] 120)) 201 #[.string nm,.int .i64 K.inputs,.int .i64 K.low,.int .i64 K.high,.bool K.linear,.bool K.hasB]).alloc (.cells xLz 201);simpa using this) 1) (((HB0.o.alloc zQ _).alloc zQ _).drew))
end
section
open Go.RowKit
theorem c_waitsFor (x:xR) (cs:List Value) (w:World) (h:T.rds w x.fs cs):Calls Tryz.prog 156 #[.agg cs.toArray] w fun e w'=> ∃ u,e= .returned u∧RdI w' u (zBz x)∧Below w.heap.size w w':=by
 obtain⟨v3,rfl,h3⟩:=xR.yT h;clear h;obtain⟨va3,vc3,rfl,vl3,vm3,R3,HX3⟩:=oI h3;clear h3;obtain⟨HB0,HK0⟩:=aK w 120 #[.int .i64 x.zD,.int .i64 x.fA,.int .i64 x.fB,(.slice va3 x.zO.length vc3)];have HR:=xN (RdI.below R3.o HB0.o);by_cases h6:x.zD=6
 ·have h6':(x.zD == 6)=true:=xA h6;have H6:=xN h6;clear h6
  go_enter Tryz.func156,Tryz.ntmps156
  go_wp2;go_ret
  exact⟨_,rfl,by unfold zBz;rw[if_pos H6.o];exact Rd.nil_ _ _,HB0.o⟩
 ·have h6':(x.zD == 6)=false:=yZ h6;have H6:=xN h6;clear h6
  go_enter Tryz.func156,Tryz.ntmps156
  go_wp2;go_ret
  exact⟨_,rfl,by unfold zBz;rw[if_neg H6.o];exact HR.o,HB0.o⟩
theorem uYz (x:xQ) (cs:List Value) (w:World) (h:T.rds w x.fs cs):Calls Tryz.prog 125 #[.agg cs.toArray] w fun e w'=>e= .returned (.bool (tf (wDz x)))∧Below w.heap.size w w':=by
 obtain⟨v1,v2,v3,rfl,h1,h2,h3⟩:=xQ.yT h;clear h;obtain⟨va1,vc1,rfl,vl1,vm1,R1,HX1⟩:=oG h1;clear h1;obtain⟨va2,vc2,rfl,vl2,vm2,R2,HX2⟩:=oG h2;clear h2;obtain⟨va3,vc3,rfl,vl3,vm3,R3,HX3⟩:=oI h3;clear h3;obtain⟨HB0,HK0⟩:=aK w 81 #[.int .i64 x.zU,(.slice va1 x.zY.length vc1),(.slice va2 x.zF.length vc2),(.slice va3 x.zX.length vc3)]
 go_enter Tryz.func125,Tryz.ntmps125
 by_cases q1:inB x.zU 0 4=true
 rotate_left
 ·have q1':inB x.zU 0 4=false:=(by simpa using q1)
  go_wp2_with (first|(go_at_call 47;refine(xX _ _ _ _).mono ?_;rintro e w' ⟨rfl,rfl⟩)|(go_at_call 152;refine(xXz _ _ _ _ zM).mono ?_;rintro e w' ⟨rfl,rfl⟩)|(go_at_call 153;refine(xHz _ x.zY _ (T.yJ R1.o HB0.o)).mono ?_;rintro e w' ⟨rfl,rfl⟩;rw[a2])|(go_at_call 154;refine(zMz _ x.zX _ (Rd.below R3.o HB0.o)).mono ?_;rintro e w' ⟨rfl,rfl⟩)|(go_at_call 50;refine(wZ _ x.zX _ _ (Rd.below R3.o HB0.o) zM zM).mono ?_;rintro e w' ⟨rfl,rfl⟩;rw[a5]))
  go_ret
  exact⟨yN (xH fun h=>q1 h.inputs).symm,HB0.o⟩
 skip
 by_cases q2:vAz x.zY
 rotate_left
 ·have a2:=xH q2;have Q2:=xN q2;clear q2
  go_wp2_with (first|(go_at_call 47;refine(xX _ _ _ _).mono ?_;rintro e w' ⟨rfl,rfl⟩)|(go_at_call 152;refine(xXz _ _ _ _ zM).mono ?_;rintro e w' ⟨rfl,rfl⟩)|(go_at_call 153;refine(xHz _ x.zY _ (T.yJ R1.o HB0.o)).mono ?_;rintro e w' ⟨rfl,rfl⟩;rw[a2])|(go_at_call 154;refine(zMz _ x.zX _ (Rd.below R3.o HB0.o)).mono ?_;rintro e w' ⟨rfl,rfl⟩)|(go_at_call 50;refine(wZ _ x.zX _ _ (Rd.below R3.o HB0.o) zM zM).mono ?_;rintro e w' ⟨rfl,rfl⟩;rw[a5]))
  go_ret
  exact⟨yN (xH fun h=>Q2.o h.tables).symm,HB0.o⟩
 have a2:=xI q2;have Q2:=xN q2;clear q2;by_cases q3:x.zF.length≤24
 rotate_left
 ·have Q3:=xN q3
  go_wp2_with (first|(go_at_call 47;refine(xX _ _ _ _).mono ?_;rintro e w' ⟨rfl,rfl⟩)|(go_at_call 152;refine(xXz _ _ _ _ zM).mono ?_;rintro e w' ⟨rfl,rfl⟩)|(go_at_call 153;refine(xHz _ x.zY _ (T.yJ R1.o HB0.o)).mono ?_;rintro e w' ⟨rfl,rfl⟩;rw[a2])|(go_at_call 154;refine(zMz _ x.zX _ (Rd.below R3.o HB0.o)).mono ?_;rintro e w' ⟨rfl,rfl⟩)|(go_at_call 50;refine(wZ _ x.zX _ _ (Rd.below R3.o HB0.o) zM zM).mono ?_;rintro e w' ⟨rfl,rfl⟩;rw[a5]))
  go_ret
  exact⟨yN (xH fun h=>q3 h.few).symm,HB0.o⟩
 have Q3:=xN q3;by_cases q4:x.zX.length≤4
 rotate_left
 ·have Q4:=xN q4
  go_wp2_with (first|(go_at_call 47;refine(xX _ _ _ _).mono ?_;rintro e w' ⟨rfl,rfl⟩)|(go_at_call 152;refine(xXz _ _ _ _ zM).mono ?_;rintro e w' ⟨rfl,rfl⟩)|(go_at_call 153;refine(xHz _ x.zY _ (T.yJ R1.o HB0.o)).mono ?_;rintro e w' ⟨rfl,rfl⟩;rw[a2])|(go_at_call 154;refine(zMz _ x.zX _ (Rd.below R3.o HB0.o)).mono ?_;rintro e w' ⟨rfl,rfl⟩)|(go_at_call 50;refine(wZ _ x.zX _ _ (Rd.below R3.o HB0.o) zM zM).mono ?_;rintro e w' ⟨rfl,rfl⟩;rw[a5]))
  go_ret
  exact⟨yN (xH fun h=>q4 h.outs).symm,HB0.o⟩
 have Q4:=xN q4;by_cases q5:Idx x.zX (x.zF.length:Int)
 rotate_left
 ·have a5:=xH q5;have Q5:=xN q5;clear q5
  go_wp2_with (first|(go_at_call 47;refine(xX _ _ _ _).mono ?_;rintro e w' ⟨rfl,rfl⟩)|(go_at_call 152;refine(xXz _ _ _ _ zM).mono ?_;rintro e w' ⟨rfl,rfl⟩)|(go_at_call 153;refine(xHz _ x.zY _ (T.yJ R1.o HB0.o)).mono ?_;rintro e w' ⟨rfl,rfl⟩;rw[a2])|(go_at_call 154;refine(zMz _ x.zX _ (Rd.below R3.o HB0.o)).mono ?_;rintro e w' ⟨rfl,rfl⟩)|(go_at_call 50;refine(wZ _ x.zX _ _ (Rd.below R3.o HB0.o) zM zM).mono ?_;rintro e w' ⟨rfl,rfl⟩;rw[a5]))
  go_ret
  exact⟨yN (xH fun h=>Q5.o h.outputs).symm,HB0.o⟩
 have a5:=xI q5;have Q5:=xN q5;clear q5;go_wp2_with (first|(go_at_call 47;refine(xX _ _ _ _).mono ?_;rintro e w' ⟨rfl,rfl⟩)|(go_at_call 152;refine(xXz _ _ _ _ zM).mono ?_;rintro e w' ⟨rfl,rfl⟩)|(go_at_call 153;refine(xHz _ x.zY _ (T.yJ R1.o HB0.o)).mono ?_;rintro e w' ⟨rfl,rfl⟩;rw[a2])|(go_at_call 154;refine(zMz _ x.zX _ (Rd.below R3.o HB0.o)).mono ?_;rintro e w' ⟨rfl,rfl⟩)|(go_at_call 50;refine(wZ _ x.zX _ _ (Rd.below R3.o HB0.o) zM zM).mono ?_;rintro e w' ⟨rfl,rfl⟩;rw[a5]))
 clear a2 a5
 go_loopw [39] (fun i wr=> ∃ k:Nat,k≤x.zF.length∧i= .int .i64 k∧vU x.zF (fun _ x_1=>yCz x_1 (x.zY.length:Int)∧Idx x_1.zO (x.zF.length:Int)∧(x_1.zD=1→x_1.fA<x.zU)) k∧Below (w.alloc (.cells #[.int .i64 x.zU,(.slice va1 x.zY.length vc1),(.slice va2 x.zF.length vc2),(.slice va3 x.zX.length vc3)] 81)).heap.size (w.alloc (.cells #[.int .i64 x.zU,(.slice va1 x.zY.length vc1),(.slice va2 x.zF.length vc2),(.slice va3 x.zX.length vc3)] 81)) wr) (fun i _=>x.zF.length - (intOf i).toNat)
 case atStart=>exact⟨0,Nat.zero_le _,rfl,vU.zero,zR⟩
 case round=>
  obtain⟨k,hk,rfl,hs,hbw⟩:=hrel;have HS:=xN hs;have HW:=xN hbw;have HB:=xN (yO HB0.o HB0.o.size hbw);have HK:=xN (HK0.o.below hbw HK0.o.lt);clear hs hbw;have ka:=HK.o.cell;have la:=HK.o.lt;by_cases hlt:k<x.zF.length
  rotate_left
  ·have hall:=xN (HS.o.all zM);clear HS
   go_wp2;go_ret
   exact⟨yN (xI ⟨q1,Q2.o,Q3.o,Q4.o,Q5.o,hall.o⟩).symm,HB.o⟩
  have hgk:=gE hlt;obtain⟨b1,off,cs1,hA,hb1,hcs,hcell⟩:=HX2.o k x.zF[k] hgk;subst hA;generalize x.zF[k]=y at *;have HG:=xN hgk;clear hgk;obtain⟨u3,rfl,hRY3⟩:=xR.yT (show T.rds _ _ _ by simpa only[xR.t,T.rd] using hcs);obtain⟨d0,d1,d2,d3⟩:=oc4 HB.o hb1 hcell;have RY3:=xN (T.yJ hRY3 HB.o);clear hRY3;clear hcs hcell;have RY3i:=xN (T.xB.1 RY3.o);obtain⟨ua3,uc3,rfl,ul3,um3,ux3⟩:=RY3i.o.open_;clear ux3;have hq1:b1<wr.heap.size:=zW hb1 HB.o.size;by_cases p1:yCz y (x.zY.length:Int)
  rotate_left
  ·have b1':=xH p1;have P1:=xN p1;clear p1
   have hWb:Below wr.heap.size wr (wr.alloc (.cells #[.int .i64 y.zD,.int .i64 y.fA,.int .i64 y.fB,(.slice ua3 y.zO.length uc3)] 120)):=zR.alloc zJ _;have hNb:=Bk.born wr 120 #[.int .i64 y.zD,.int .i64 y.fA,.int .i64 y.fB,(.slice ua3 y.zO.length uc3)];go_wp2;generalize wr.alloc (.cells #[.int .i64 y.zD,.int .i64 y.fA,.int .i64 y.fB,(.slice ua3 y.zO.length uc3)] 120)=W at *;have HWb:=xN hWb;have HNb:=xN hNb;have HKW:=xN (HK.o.below hWb HK.o.lt);have g0:=xM hNb;have g1:=xM HKW.o;clear hWb hNb;refine rB ?_
   repeat(first|go_big_quiet_skip|(go_big_quiet_want;go_big_quiet_op;first|go_big_quiet_on|(apply Exists.intro;refine⟨fun _=>?_,?_⟩;(· (first|(go_at_call 54;exact Calls.yP (xKz _ _ _ _ zM))|(go_at_call 155;exact Calls.yQ ((uXz y _ _ _ (xR.rd_mk (T.yJ RY3.o (yO HWb.o HWb.o.size (yM W _))))).mono (fun e w' h=>by rw[b1'] at h;exact h)))|(go_at_call 50;exact Calls.yP ((wZ _ y.zO _ _ (Rd.below RY3i.o (yO HWb.o HWb.o.size (yM W _))) zM zM).mono (fun e w' h=>by rw[b2'] at h;exact h)))));go_big_quiet_on)))
   refine wpQuiet_nil ?_;rintro w9 ⟨uu,rfl⟩;have hb9:=yM W uu;generalize bel W uu=w9 at *;have HC:=xN (yO HWb.o HWb.o.size hb9);have HC2:=xN (yO HB.o HB.o.size HC.o);have HC3:=xN (yO HW.o HW.o.size HC.o);clear hb9 g0 g1;go_wp2;go_ret
   exact⟨yN (xH fun h=>P1.o (h.nodes k y HG.o).1).symm,HC2.o⟩
  have b1':=xI p1;have P1:=xN p1;clear p1;by_cases p2:Idx y.zO (x.zF.length:Int)
  rotate_left
  ·have b2':=xH p2;have P2:=xN p2;clear p2
   have hWb:Below wr.heap.size wr (wr.alloc (.cells #[.int .i64 y.zD,.int .i64 y.fA,.int .i64 y.fB,(.slice ua3 y.zO.length uc3)] 120)):=zR.alloc zJ _;have hNb:=Bk.born wr 120 #[.int .i64 y.zD,.int .i64 y.fA,.int .i64 y.fB,(.slice ua3 y.zO.length uc3)];go_wp2;generalize wr.alloc (.cells #[.int .i64 y.zD,.int .i64 y.fA,.int .i64 y.fB,(.slice ua3 y.zO.length uc3)] 120)=W at *;have HWb:=xN hWb;have HNb:=xN hNb;have HKW:=xN (HK.o.below hWb HK.o.lt);have g0:=xM hNb;have g1:=xM HKW.o;clear hWb hNb;refine rB ?_
   repeat(first|go_big_quiet_skip|(go_big_quiet_want;go_big_quiet_op;first|go_big_quiet_on|(apply Exists.intro;refine⟨fun _=>?_,?_⟩;(· (first|(go_at_call 54;exact Calls.yP (xKz _ _ _ _ zM))|(go_at_call 155;exact Calls.yQ ((uXz y _ _ _ (xR.rd_mk (T.yJ RY3.o (yO HWb.o HWb.o.size (yM W _))))).mono (fun e w' h=>by rw[b1'] at h;exact h)))|(go_at_call 50;exact Calls.yP ((wZ _ y.zO _ _ (Rd.below RY3i.o (yO HWb.o HWb.o.size (yM W _))) zM zM).mono (fun e w' h=>by rw[b2'] at h;exact h)))));go_big_quiet_on)))
   refine wpQuiet_nil ?_;rintro w9 ⟨uu,rfl⟩;have hb9:=yM W uu;generalize bel W uu=w9 at *;have HC:=xN (yO HWb.o HWb.o.size hb9);have HC2:=xN (yO HB.o HB.o.size HC.o);have HC3:=xN (yO HW.o HW.o.size HC.o);clear hb9 g0 g1;go_wp2;go_ret
   exact⟨yN (xH fun h=>P2.o (h.nodes k y HG.o).2.1).symm,HC2.o⟩
  have b2':=xI p2;have P2:=xN p2;clear p2;by_cases p3:y.zD=1
  rotate_left
  ·have p3':(y.zD == 1)=false:=yZ p3;have P3:=xN p3;clear p3
   have hWb:Below wr.heap.size wr (wr.alloc (.cells #[.int .i64 y.zD,.int .i64 y.fA,.int .i64 y.fB,(.slice ua3 y.zO.length uc3)] 120)):=zR.alloc zJ _;have hNb:=Bk.born wr 120 #[.int .i64 y.zD,.int .i64 y.fA,.int .i64 y.fB,(.slice ua3 y.zO.length uc3)];go_wp2;generalize wr.alloc (.cells #[.int .i64 y.zD,.int .i64 y.fA,.int .i64 y.fB,(.slice ua3 y.zO.length uc3)] 120)=W at *;have HWb:=xN hWb;have HNb:=xN hNb;have HKW:=xN (HK.o.below hWb HK.o.lt);have g0:=xM hNb;have g1:=xM HKW.o;clear hWb hNb;refine rB ?_
   repeat(first|go_big_quiet_skip|(go_big_quiet_want;go_big_quiet_op;first|go_big_quiet_on|(apply Exists.intro;refine⟨fun _=>?_,?_⟩;(· (first|(go_at_call 54;exact Calls.yP (xKz _ _ _ _ zM))|(go_at_call 155;exact Calls.yQ ((uXz y _ _ _ (xR.rd_mk (T.yJ RY3.o (yO HWb.o HWb.o.size (yM W _))))).mono (fun e w' h=>by rw[b1'] at h;exact h)))|(go_at_call 50;exact Calls.yP ((wZ _ y.zO _ _ (Rd.below RY3i.o (yO HWb.o HWb.o.size (yM W _))) zM zM).mono (fun e w' h=>by rw[b2'] at h;exact h)))));go_big_quiet_on)))
   refine wpQuiet_nil ?_;rintro w9 ⟨uu,rfl⟩;have hb9:=yM W uu;generalize bel W uu=w9 at *;have HC:=xN (yO HWb.o HWb.o.size hb9);have HC2:=xN (yO HB.o HB.o.size HC.o);have HC3:=xN (yO HW.o HW.o.size HC.o);clear hb9 g0 g1;go_wp2
   go_roundw
   case rel=>exact⟨k+1,by omega,by go_num,HS.o.step HG.o ⟨P1.o,P2.o,fun h=>absurd h P3.o⟩,HC3.o⟩
   case measure=>simp[intOf];omega
  have p3':(y.zD == 1)=true:=xA p3;have P3:=xN p3;clear p3;by_cases p4:x.zU≤y.fA
  ·have p4':decide (x.zU≤y.fA)=true:=decide_eq_true p4;have P4:=xN p4
   have hWb:Below wr.heap.size wr (wr.alloc (.cells #[.int .i64 y.zD,.int .i64 y.fA,.int .i64 y.fB,(.slice ua3 y.zO.length uc3)] 120)):=zR.alloc zJ _;have hNb:=Bk.born wr 120 #[.int .i64 y.zD,.int .i64 y.fA,.int .i64 y.fB,(.slice ua3 y.zO.length uc3)];go_wp2;generalize wr.alloc (.cells #[.int .i64 y.zD,.int .i64 y.fA,.int .i64 y.fB,(.slice ua3 y.zO.length uc3)] 120)=W at *;have HWb:=xN hWb;have HNb:=xN hNb;have HKW:=xN (HK.o.below hWb HK.o.lt);have g0:=xM hNb;have g1:=xM HKW.o;clear hWb hNb;refine rB ?_
   repeat(first|go_big_quiet_skip|(go_big_quiet_want;go_big_quiet_op;first|go_big_quiet_on|(apply Exists.intro;refine⟨fun _=>?_,?_⟩;(· (first|(go_at_call 54;exact Calls.yP (xKz _ _ _ _ zM))|(go_at_call 155;exact Calls.yQ ((uXz y _ _ _ (xR.rd_mk (T.yJ RY3.o (yO HWb.o HWb.o.size (yM W _))))).mono (fun e w' h=>by rw[b1'] at h;exact h)))|(go_at_call 50;exact Calls.yP ((wZ _ y.zO _ _ (Rd.below RY3i.o (yO HWb.o HWb.o.size (yM W _))) zM zM).mono (fun e w' h=>by rw[b2'] at h;exact h)))));go_big_quiet_on)))
   refine wpQuiet_nil ?_;rintro w9 ⟨uu,rfl⟩;have hb9:=yM W uu;generalize bel W uu=w9 at *;have HC:=xN (yO HWb.o HWb.o.size hb9);have HC2:=xN (yO HB.o HB.o.size HC.o);have HC3:=xN (yO HW.o HW.o.size HC.o);clear hb9 g0 g1;go_wp2;go_ret
   exact⟨yN (xH fun h=>by have:=(h.nodes k y HG.o).2.2 P3.o;have:=P4.o;omega).symm,HC2.o⟩
  have p4':decide (x.zU≤y.fA)=false:=decide_eq_false p4;have P4:=xN p4;have hWb:Below wr.heap.size wr (wr.alloc (.cells #[.int .i64 y.zD,.int .i64 y.fA,.int .i64 y.fB,(.slice ua3 y.zO.length uc3)] 120)):=zR.alloc zJ _;have hNb:=Bk.born wr 120 #[.int .i64 y.zD,.int .i64 y.fA,.int .i64 y.fB,(.slice ua3 y.zO.length uc3)];go_wp2;generalize wr.alloc (.cells #[.int .i64 y.zD,.int .i64 y.fA,.int .i64 y.fB,(.slice ua3 y.zO.length uc3)] 120)=W at *;have HWb:=xN hWb;have HNb:=xN hNb;have HKW:=xN (HK.o.below hWb HK.o.lt);have g0:=xM hNb;have g1:=xM HKW.o;clear hWb hNb;refine rB ?_
  repeat(first|go_big_quiet_skip|(go_big_quiet_want;go_big_quiet_op;first|go_big_quiet_on|(apply Exists.intro;refine⟨fun _=>?_,?_⟩;(· (first|(go_at_call 54;exact Calls.yP (xKz _ _ _ _ zM))|(go_at_call 155;exact Calls.yQ ((uXz y _ _ _ (xR.rd_mk (T.yJ RY3.o (yO HWb.o HWb.o.size (yM W _))))).mono (fun e w' h=>by rw[b1'] at h;exact h)))|(go_at_call 50;exact Calls.yP ((wZ _ y.zO _ _ (Rd.below RY3i.o (yO HWb.o HWb.o.size (yM W _))) zM zM).mono (fun e w' h=>by rw[b2'] at h;exact h)))));go_big_quiet_on)))
  refine wpQuiet_nil ?_;rintro w9 ⟨uu,rfl⟩;have hb9:=yM W uu;generalize bel W uu=w9 at *;have HC:=xN (yO HWb.o HWb.o.size hb9);have HC2:=xN (yO HB.o HB.o.size HC.o);have HC3:=xN (yO HW.o HW.o.size HC.o);clear hb9 g0 g1;go_wp2
  go_roundw
  case rel=>exact⟨k+1,by omega,by go_num,HS.o.step HG.o ⟨P1.o,P2.o,fun _=>by have:=P4.o;omega⟩,HC3.o⟩
  case measure=>simp[intOf];omega
end
end Go.Proofs.YtdcofkabaigjpaaGreat
