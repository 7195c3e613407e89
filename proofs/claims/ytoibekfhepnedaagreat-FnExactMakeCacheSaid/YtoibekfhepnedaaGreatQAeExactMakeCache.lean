/- Contracts: what is valid, by the program: nodes. Contracts: what is valid, by the program: well formed patches. -/
import Derived.Test.YtoibekfhepnedaaGreatQAdExactMakeCache
import Derived.Deep.RegionWith
set_option linter.unusedVariables false
set_option linter.unusedSimpArgs false
set_option maxHeartbeats 2000000
set_option maxRecDepth 20000
namespace Go.Proofs.YtoibekfhepnedaaGreat
section
open Go.RowKit
theorem c_isNode (x:xJ) (cs:List Value) (tables:Int) (w:World) (h:T.rds w x.fs cs):Calls Tryz.prog 262 #[.agg cs.toArray,.int .i64 tables] w fun e w'=>e= .returned (.bool (tf (NodeOk x tables)))∧Below w.heap.size w w':=by
 obtain⟨v3,rfl,h3⟩:=xJ.yO h
 clear h
 have h3i:=T.yT.1 h3;obtain⟨va3,vc3,rfl,vl3,vm3,vx3⟩:=h3i.open_
 have R3:=hide h3i;have HX3:=hide vx3;clear vx3 h3 h3i
 have HB0:=hide (show Below w.heap.size w (w.alloc (.cells #[.int .i64 x.zD,.int .i64 x.fA,.int .i64 x.fB,(.slice va3 x.zH.length vc3)] 167)) from(Below.refl _ _).alloc (Nat.le_refl _) _)
 have HK0:=hide (Bk.born w 167 #[.int .i64 x.zD,.int .i64 x.fA,.int .i64 x.fB,(.slice va3 x.zH.length vc3)])
 have hB0:=HB0.out;have ka0:=HK0.out.cell
 go_enter Tryz.func262,Tryz.ntmps262
 by_cases q0:inB x.zD 1 17=true
 rotate_left
 ·have q0':inB x.zD 1 17=false:=by simpa using q0
  go_wp2_with (go_at_call 278;refine(c_isKind _ _).mono ?_;rintro e w' ⟨rfl,rfl⟩)
  go_ret
  exact⟨yI (yZ fun h=>q0 h.kind).symm,HB0.out⟩
 have hk:=xC.1 q0
 obtain⟨i,hi,hki⟩: ∃ i:Nat,i<17∧x.zD=(i:Int)+1:=⟨(x.zD - 1).toNat,by omega,by omega⟩
 obtain⟨r0,r1,r2,r3,r4,r5⟩:=kndCells_at hi
 generalize hK:kndL.getD i ⟨0,0,0,false,false⟩=K at *
 generalize kndName i=nm at *
 have e1:IntKind.i64.wrap (x.zD - 1)=(i:Int):=by rw[IntWalk.i64_in _ (by omega)];omega
 have HF:kndF x.zD=K:=by rw[←hK,hki];unfold kndF;congr 1;omega
 have HKF:=hide HF;have HKI:=hide hki;clear HF hki hK hk
 have n0:(0:Int)≤(i:Int):=by omega
 have n1:(i:Int)<17:=by omega
 go_wp2_with (go_at_call 278;refine(c_isKind _ _).mono ?_;rintro e w' ⟨rfl,rfl⟩)
 rename_i Q1 K1 hK1
 have REST: ∀ (p g:Nat) (W:World),Bk W w.heap.size 167 #[.int .i64 x.zD,.int .i64 x.fA,.int .i64 x.fB,(.slice va3 x.zH.length vc3)]→Bk W p 306 #[.string nm,.int .i64 K.inputs,.int .i64 K.low,.int .i64 K.high,.bool K.linear,.bool K.hasB]→Below w.heap.size w W→K1 { tmps:= #[.agg #[.int .i64 x.zD,.int .i64 x.fA,.int .i64 x.fB,(.slice va3 x.zH.length vc3)],.int .i64 tables,.pointer (some ⟨w.heap.size,0,none⟩),undef,.bool false,.pointer (some ⟨p,0,none⟩),undef,undef,.pointer (some ⟨w.heap.size,0,none⟩),.int .i64 x.zD,.bool true,.bool false,.slice (some ⟨g,0,none⟩) 17 17,.pointer (some ⟨w.heap.size,0,none⟩),.int .i64 x.zD,.int .i64 (i:Int),.pointer (some ⟨g,i * 6,none⟩),.agg #[.string nm,.int .i64 K.inputs,.int .i64 K.low,.int .i64 K.high,.bool K.linear,.bool K.hasB],undef,undef,undef,undef,undef,undef,undef,undef,undef,undef,undef,undef,undef,undef,undef,undef,undef,undef,undef,undef,undef,undef,undef,undef,undef,undef,undef,undef,undef,undef,undef,undef,undef,undef,undef,undef,undef,undef,undef,undef,undef,undef,undef,undef,undef,undef,undef,undef,undef,undef,undef,undef,undef,undef,undef,undef,undef,undef,undef,undef,undef,undef,undef,undef,undef,undef,undef,undef,undef,undef],defers:= [] } W:=by
  intro p g W hbk hbp hbw
  have HK:=hide hbk;have HP:=hide hbp;have HB:=hide hbw;clear hbk hbp hbw r0 r1 r2 r3 r4 r5 hB0 ka0
  have ka:=HK.out.cell;have kp:=HP.out.cell;have hsz:=HB.out.size;have la:=HK.out.lt;have lp:=HP.out.lt
  refine hK1 _ _ ?_
  by_cases a0:K.low≤K.high
  ·have a1:decide (K.low≤K.high)=true:=decide_eq_true a0
   go_wp2_with (go_at_call 89;refine(xS _ _ _ _).mono ?_;rintro e w' ⟨rfl,rfl⟩)
   refine(c_hasA _ _ _ _ _ _ _).mono ?_;rintro e w3 ⟨rfl,hb⟩;rw[a1]
   replace HK:=hide (HK.out.below hb la);replace HP:=hide (HP.out.below hb lp);replace HB:=hide (yJ HB.out HB.out.size hb);clear hb ka kp la lp hsz
   have ka:=HK.out.cell;have kp:=HP.out.cell;have hsz:=HB.out.size;have la:=HK.out.lt;have lp:=HP.out.lt
   by_cases q1:inB x.fA K.low K.high=true
   rotate_left
   ·have q1':inB x.fA K.low K.high=false:=by simpa using q1
    go_wp2_with (go_at_call 89;refine(xS _ _ _ _).mono ?_;rintro e w' ⟨rfl,rfl⟩)
    go_ret
    exact⟨yI (yZ fun h=>by have h1:=h.a;rw[HKF.out,if_pos a0] at h1;exact q1 h1).symm,HB.out⟩
   have HA:=hide (show if K.low≤K.high then inB x.fA K.low K.high=true else x.fA=0 by rw[if_pos a0];exact q1)
   go_wp2_with (go_at_call 89;refine(xS _ _ _ _).mono ?_;rintro e w' ⟨rfl,rfl⟩)
   refine(c_hasA _ _ _ _ _ _ _).mono ?_;rintro e w4 ⟨rfl,hb⟩;rw[a1]
   replace HK:=hide (HK.out.below hb la);replace HP:=hide (HP.out.below hb lp);replace HB:=hide (yJ HB.out HB.out.size hb);clear hb ka kp la lp hsz
   have ka:=HK.out.cell;have kp:=HP.out.cell;have hsz:=HB.out.size;have la:=HK.out.lt;have lp:=HP.out.lt
   cases hB:K.hasB
   ·have hbq:=hB
    by_cases q2:x.fB=0
    rotate_left
    ·have q2':(x.fB != 0)=true:=bneI_t q2;have Q2:=hide q2;clear q2
     go_wp2_with (go_at_call 89;refine(xS _ _ _ _).mono ?_;rintro e w' ⟨rfl,rfl⟩)
     go_ret
     exact⟨yI (yZ fun h=>by have h1:=h.b;rw[HKF.out,hB] at h1;exact Q2.out h1).symm,HB.out⟩
    have q2':(x.fB != 0)=false:=bneI_f q2;have Q2:=hide q2;clear q2
    go_wp2_with (go_at_call 89;refine(xS _ _ _ _).mono ?_;rintro e w' ⟨rfl,rfl⟩)
    go_loop [63] (fun i=> ∃ k:Nat,k≤x.zH.length∧i= .int .i64 k∧vI x.zH (fun _ f=>inB f 0 23=true) k) (fun i=>x.zH.length - (intOf i).toNat)
    case atStart=>exact⟨0,Nat.zero_le _,rfl,vI.zero⟩
    case round=>
     obtain⟨k,hk,rfl,hs⟩:=hrel
     have HS:=hide hs;clear hs
     by_cases hlt:k<x.zH.length
     ·have hgk:=gE hlt
      obtain⟨b1,off,hA,hb1,hc0⟩:=HX3.out k x.zH[k] hgk
      subst hA
      generalize x.zH[k]=y at *
      have HG:=hide hgk;have hcell:=(HB.out.cell hb1).trans hc0;have hq1:b1<w4.heap.size:=lL hb1 HB.out.size;clear hgk hc0
      by_cases q3:inB y 0 23=true
      ·go_wp2_with (go_at_call 89;refine(xS _ _ _ _).mono ?_;rintro e w' ⟨rfl,rfl⟩)
       go_round
       case rel=>exact⟨k+1,by omega,by go_num,HS.out.step HG.out q3⟩
       case measure=>simp[intOf];omega
      ·have q3':inB y 0 23=false:=by simpa using q3
       go_wp2_with (go_at_call 89;refine(xS _ _ _ _).mono ?_;rintro e w' ⟨rfl,rfl⟩)
       go_ret
       exact⟨yI (yZ fun h=>q3 (h.from_ k y HG.out)).symm,HB.out⟩
     have hall:=hide (HS.out.all (by omega));clear HS
     go_wp2
     have HW:=hide (Below.refl w4.heap.size w4)
     by_cases c1:(x.zH.length:Int)=K.inputs
     rotate_left
     ·have c1':((x.zH.length:Int) == K.inputs)=false:=yR c1;have C1:=hide c1;clear c1
      have g0:=xE HK.out;have g1:=xE HP.out
      refine xD (by kernel_rfl) (by kernel_rfl) ?_
      repeat(first|go_big_quiet_skip|(go_big_quiet_want;go_big_quiet_op;first|go_big_quiet_on|(apply Exists.intro;refine⟨fun _=>?_,?_⟩;(· (go_at_call 86;exact Calls.yK (vP _ x.zH _ (Rd.below R3.out (yJ HB.out HB.out.size (yH w4 _))))));go_big_quiet_on)))
      refine wpQuiet_nil ?_
      rintro w9 ⟨uu,rfl⟩
      have hb9:=yH w4 uu
      generalize bel w4 uu=w9 at *
      have HB9:=hide (yJ HB.out HB.out.size hb9);clear hb9 g0 g1
      go_wp2
      go_ret
      exact⟨yI (yZ fun h=>C1.out (by have:=h.arity;rwa [HKF.out] at this)).symm,HB9.out⟩
     have c1':((x.zH.length:Int) == K.inputs)=true:=yS c1;have C1:=hide c1;clear c1
     skip
     by_cases c2:x.zD=13
     ·have c2':(x.zD != 13)=false:=bneI_f c2;have C2:=hide c2;clear c2
      by_cases c3:x.fA<tables
      ·have c3':decide (x.fA<tables)=true:=decide_eq_true c3;have C3:=hide c3
       have g0:=xE HK.out;have g1:=xE HP.out
       refine xD (by kernel_rfl) (by kernel_rfl) ?_
       repeat(first|go_big_quiet_skip|(go_big_quiet_want;go_big_quiet_op;first|go_big_quiet_on|(apply Exists.intro;refine⟨fun _=>?_,?_⟩;(· (go_at_call 86;exact Calls.yK (vP _ x.zH _ (Rd.below R3.out (yJ HB.out HB.out.size (yH w4 _))))));go_big_quiet_on)))
       refine wpQuiet_nil ?_
       rintro w9 ⟨uu,rfl⟩
       have hb9:=yH w4 uu
       generalize bel w4 uu=w9 at *
       have HB9:=hide (yJ HB.out HB.out.size hb9);clear hb9 g0 g1
       go_wp2
       go_ret
       exact⟨yI (xA ⟨q0,by rw[HKF.out];exact HA.out,by rw[HKF.out,hB];exact Q2.out,hall.out,by rw[HKF.out];exact C1.out,fun _=>C3.out⟩).symm,HB9.out⟩
      ·have c3':decide (x.fA<tables)=false:=decide_eq_false c3;have C3:=hide c3
       have g0:=xE HK.out;have g1:=xE HP.out
       refine xD (by kernel_rfl) (by kernel_rfl) ?_
       repeat(first|go_big_quiet_skip|(go_big_quiet_want;go_big_quiet_op;first|go_big_quiet_on|(apply Exists.intro;refine⟨fun _=>?_,?_⟩;(· (go_at_call 86;exact Calls.yK (vP _ x.zH _ (Rd.below R3.out (yJ HB.out HB.out.size (yH w4 _))))));go_big_quiet_on)))
       refine wpQuiet_nil ?_
       rintro w9 ⟨uu,rfl⟩
       have hb9:=yH w4 uu
       generalize bel w4 uu=w9 at *
       have HB9:=hide (yJ HB.out HB.out.size hb9);clear hb9 g0 g1
       go_wp2
       go_ret
       exact⟨yI (yZ fun h=>by have:=C3.out;have:=h.table C2.out;omega).symm,HB9.out⟩
     have c2':(x.zD != 13)=true:=bneI_t c2;have C2:=hide c2;clear c2
     have g0:=xE HK.out;have g1:=xE HP.out
     refine xD (by kernel_rfl) (by kernel_rfl) ?_
     repeat(first|go_big_quiet_skip|(go_big_quiet_want;go_big_quiet_op;first|go_big_quiet_on|(apply Exists.intro;refine⟨fun _=>?_,?_⟩;(· (go_at_call 86;exact Calls.yK (vP _ x.zH _ (Rd.below R3.out (yJ HB.out HB.out.size (yH w4 _))))));go_big_quiet_on)))
     refine wpQuiet_nil ?_
     rintro w9 ⟨uu,rfl⟩
     have hb9:=yH w4 uu
     generalize bel w4 uu=w9 at *
     have HB9:=hide (yJ HB.out HB.out.size hb9);clear hb9 g0 g1
     go_wp2
     go_ret
     exact⟨yI (xA ⟨q0,by rw[HKF.out];exact HA.out,by rw[HKF.out,hB];exact Q2.out,hall.out,by rw[HKF.out];exact C1.out,fun h=>absurd h C2.out⟩).symm,HB9.out⟩
   ·have hbq:=hB
    by_cases q2:inB x.fB 1 16=true
    rotate_left
    ·have q2':inB x.fB 1 16=false:=(by simpa using q2);have Q2:=hide q2
     go_wp2_with (go_at_call 89;refine(xS _ _ _ _).mono ?_;rintro e w' ⟨rfl,rfl⟩)
     go_ret
     exact⟨yI (yZ fun h=>by have h1:=h.b;rw[HKF.out,hB] at h1;exact q2 h1).symm,HB.out⟩
    have Q2:=hide q2
    go_wp2_with (go_at_call 89;refine(xS _ _ _ _).mono ?_;rintro e w' ⟨rfl,rfl⟩)
    go_loop [63] (fun i=> ∃ k:Nat,k≤x.zH.length∧i= .int .i64 k∧vI x.zH (fun _ f=>inB f 0 23=true) k) (fun i=>x.zH.length - (intOf i).toNat)
    case atStart=>exact⟨0,Nat.zero_le _,rfl,vI.zero⟩
    case round=>
     obtain⟨k,hk,rfl,hs⟩:=hrel
     have HS:=hide hs;clear hs
     by_cases hlt:k<x.zH.length
     ·have hgk:=gE hlt
      obtain⟨b1,off,hA,hb1,hc0⟩:=HX3.out k x.zH[k] hgk
      subst hA
      generalize x.zH[k]=y at *
      have HG:=hide hgk;have hcell:=(HB.out.cell hb1).trans hc0;have hq1:b1<w4.heap.size:=lL hb1 HB.out.size;clear hgk hc0
      by_cases q3:inB y 0 23=true
      ·go_wp2_with (go_at_call 89;refine(xS _ _ _ _).mono ?_;rintro e w' ⟨rfl,rfl⟩)
       go_round
       case rel=>exact⟨k+1,by omega,by go_num,HS.out.step HG.out q3⟩
       case measure=>simp[intOf];omega
      ·have q3':inB y 0 23=false:=by simpa using q3
       go_wp2_with (go_at_call 89;refine(xS _ _ _ _).mono ?_;rintro e w' ⟨rfl,rfl⟩)
       go_ret
       exact⟨yI (yZ fun h=>q3 (h.from_ k y HG.out)).symm,HB.out⟩
     have hall:=hide (HS.out.all (by omega));clear HS
     go_wp2
     have HW:=hide (Below.refl w4.heap.size w4)
     by_cases c1:(x.zH.length:Int)=K.inputs
     rotate_left
     ·have c1':((x.zH.length:Int) == K.inputs)=false:=yR c1;have C1:=hide c1;clear c1
      have g0:=xE HK.out;have g1:=xE HP.out
      refine xD (by kernel_rfl) (by kernel_rfl) ?_
      repeat(first|go_big_quiet_skip|(go_big_quiet_want;go_big_quiet_op;first|go_big_quiet_on|(apply Exists.intro;refine⟨fun _=>?_,?_⟩;(· (go_at_call 86;exact Calls.yK (vP _ x.zH _ (Rd.below R3.out (yJ HB.out HB.out.size (yH w4 _))))));go_big_quiet_on)))
      refine wpQuiet_nil ?_
      rintro w9 ⟨uu,rfl⟩
      have hb9:=yH w4 uu
      generalize bel w4 uu=w9 at *
      have HB9:=hide (yJ HB.out HB.out.size hb9);clear hb9 g0 g1
      go_wp2
      go_ret
      exact⟨yI (yZ fun h=>C1.out (by have:=h.arity;rwa [HKF.out] at this)).symm,HB9.out⟩
     have c1':((x.zH.length:Int) == K.inputs)=true:=yS c1;have C1:=hide c1;clear c1
     skip
     by_cases c2:x.zD=13
     ·have c2':(x.zD != 13)=false:=bneI_f c2;have C2:=hide c2;clear c2
      by_cases c3:x.fA<tables
      ·have c3':decide (x.fA<tables)=true:=decide_eq_true c3;have C3:=hide c3
       have g0:=xE HK.out;have g1:=xE HP.out
       refine xD (by kernel_rfl) (by kernel_rfl) ?_
       repeat(first|go_big_quiet_skip|(go_big_quiet_want;go_big_quiet_op;first|go_big_quiet_on|(apply Exists.intro;refine⟨fun _=>?_,?_⟩;(· (go_at_call 86;exact Calls.yK (vP _ x.zH _ (Rd.below R3.out (yJ HB.out HB.out.size (yH w4 _))))));go_big_quiet_on)))
       refine wpQuiet_nil ?_
       rintro w9 ⟨uu,rfl⟩
       have hb9:=yH w4 uu
       generalize bel w4 uu=w9 at *
       have HB9:=hide (yJ HB.out HB.out.size hb9);clear hb9 g0 g1
       go_wp2
       go_ret
       exact⟨yI (xA ⟨q0,by rw[HKF.out];exact HA.out,by rw[HKF.out,hB];exact Q2.out,hall.out,by rw[HKF.out];exact C1.out,fun _=>C3.out⟩).symm,HB9.out⟩
      ·have c3':decide (x.fA<tables)=false:=decide_eq_false c3;have C3:=hide c3
       have g0:=xE HK.out;have g1:=xE HP.out
       refine xD (by kernel_rfl) (by kernel_rfl) ?_
       repeat(first|go_big_quiet_skip|(go_big_quiet_want;go_big_quiet_op;first|go_big_quiet_on|(apply Exists.intro;refine⟨fun _=>?_,?_⟩;(· (go_at_call 86;exact Calls.yK (vP _ x.zH _ (Rd.below R3.out (yJ HB.out HB.out.size (yH w4 _))))));go_big_quiet_on)))
       refine wpQuiet_nil ?_
       rintro w9 ⟨uu,rfl⟩
       have hb9:=yH w4 uu
       generalize bel w4 uu=w9 at *
       have HB9:=hide (yJ HB.out HB.out.size hb9);clear hb9 g0 g1
       go_wp2
       go_ret
       exact⟨yI (yZ fun h=>by have:=C3.out;have:=h.table C2.out;omega).symm,HB9.out⟩
     have c2':(x.zD != 13)=true:=bneI_t c2;have C2:=hide c2;clear c2
     have g0:=xE HK.out;have g1:=xE HP.out
     refine xD (by kernel_rfl) (by kernel_rfl) ?_
     repeat(first|go_big_quiet_skip|(go_big_quiet_want;go_big_quiet_op;first|go_big_quiet_on|(apply Exists.intro;refine⟨fun _=>?_,?_⟩;(· (go_at_call 86;exact Calls.yK (vP _ x.zH _ (Rd.below R3.out (yJ HB.out HB.out.size (yH w4 _))))));go_big_quiet_on)))
     refine wpQuiet_nil ?_
     rintro w9 ⟨uu,rfl⟩
     have hb9:=yH w4 uu
     generalize bel w4 uu=w9 at *
     have HB9:=hide (yJ HB.out HB.out.size hb9);clear hb9 g0 g1
     go_wp2
     go_ret
     exact⟨yI (xA ⟨q0,by rw[HKF.out];exact HA.out,by rw[HKF.out,hB];exact Q2.out,hall.out,by rw[HKF.out];exact C1.out,fun h=>absurd h C2.out⟩).symm,HB9.out⟩
  have a1:decide (K.low≤K.high)=false:=decide_eq_false a0;have A0:=hide a0;clear a0
  go_wp2_with (go_at_call 89;refine(xS _ _ _ _).mono ?_;rintro e w' ⟨rfl,rfl⟩)
  refine(c_hasA _ _ _ _ _ _ _).mono ?_;rintro e w3 ⟨rfl,hb⟩;rw[a1]
  replace HK:=hide (HK.out.below hb la);replace HP:=hide (HP.out.below hb lp);replace HB:=hide (yJ HB.out HB.out.size hb);clear hb ka kp la lp hsz
  have ka:=HK.out.cell;have kp:=HP.out.cell;have hsz:=HB.out.size;have la:=HK.out.lt;have lp:=HP.out.lt
  go_wp2_with (go_at_call 89;refine(xS _ _ _ _).mono ?_;rintro e w' ⟨rfl,rfl⟩)
  refine(c_hasA _ _ _ _ _ _ _).mono ?_;rintro e w4 ⟨rfl,hb⟩;rw[a1]
  replace HK:=hide (HK.out.below hb la);replace HP:=hide (HP.out.below hb lp);replace HB:=hide (yJ HB.out HB.out.size hb);clear hb ka kp la lp hsz
  have ka:=HK.out.cell;have kp:=HP.out.cell;have hsz:=HB.out.size;have la:=HK.out.lt;have lp:=HP.out.lt
  by_cases q1:x.fA=0
  rotate_left
  ·have q1':(x.fA != 0)=true:=bneI_t q1;have Q1:=hide q1;clear q1
   go_wp2_with (go_at_call 89;refine(xS _ _ _ _).mono ?_;rintro e w' ⟨rfl,rfl⟩)
   go_ret
   exact⟨yI (yZ fun h=>by have h1:=h.a;rw[HKF.out,if_neg (by have:=A0.out;omega)] at h1;exact Q1.out h1).symm,HB.out⟩
  have q1':(x.fA != 0)=false:=bneI_f q1
  have HA:=hide (show if K.low≤K.high then inB x.fA K.low K.high=true else x.fA=0 by rw[if_neg (by have:=A0.out;omega)];exact q1);clear q1
  cases hB:K.hasB
  ·have hbq:=hB
   by_cases q2:x.fB=0
   rotate_left
   ·have q2':(x.fB != 0)=true:=bneI_t q2;have Q2:=hide q2;clear q2
    go_wp2_with (go_at_call 89;refine(xS _ _ _ _).mono ?_;rintro e w' ⟨rfl,rfl⟩)
    go_ret
    exact⟨yI (yZ fun h=>by have h1:=h.b;rw[HKF.out,hB] at h1;exact Q2.out h1).symm,HB.out⟩
   have q2':(x.fB != 0)=false:=bneI_f q2;have Q2:=hide q2;clear q2
   go_wp2_with (go_at_call 89;refine(xS _ _ _ _).mono ?_;rintro e w' ⟨rfl,rfl⟩)
   go_loop [63] (fun i=> ∃ k:Nat,k≤x.zH.length∧i= .int .i64 k∧vI x.zH (fun _ f=>inB f 0 23=true) k) (fun i=>x.zH.length - (intOf i).toNat)
   case atStart=>exact⟨0,Nat.zero_le _,rfl,vI.zero⟩
   case round=>
    obtain⟨k,hk,rfl,hs⟩:=hrel
    have HS:=hide hs;clear hs
    by_cases hlt:k<x.zH.length
    ·have hgk:=gE hlt
     obtain⟨b1,off,hA,hb1,hc0⟩:=HX3.out k x.zH[k] hgk
     subst hA
     generalize x.zH[k]=y at *
     have HG:=hide hgk;have hcell:=(HB.out.cell hb1).trans hc0;have hq1:b1<w4.heap.size:=lL hb1 HB.out.size;clear hgk hc0
     by_cases q3:inB y 0 23=true
     ·go_wp2_with (go_at_call 89;refine(xS _ _ _ _).mono ?_;rintro e w' ⟨rfl,rfl⟩)
      go_round
      case rel=>exact⟨k+1,by omega,by go_num,HS.out.step HG.out q3⟩
      case measure=>simp[intOf];omega
     ·have q3':inB y 0 23=false:=by simpa using q3
      go_wp2_with (go_at_call 89;refine(xS _ _ _ _).mono ?_;rintro e w' ⟨rfl,rfl⟩)
      go_ret
      exact⟨yI (yZ fun h=>q3 (h.from_ k y HG.out)).symm,HB.out⟩
    have hall:=hide (HS.out.all (by omega));clear HS
    go_wp2
    have HW:=hide (Below.refl w4.heap.size w4)
    by_cases c1:(x.zH.length:Int)=K.inputs
    rotate_left
    ·have c1':((x.zH.length:Int) == K.inputs)=false:=yR c1;have C1:=hide c1;clear c1
     have g0:=xE HK.out;have g1:=xE HP.out
     refine xD (by kernel_rfl) (by kernel_rfl) ?_
     repeat(first|go_big_quiet_skip|(go_big_quiet_want;go_big_quiet_op;first|go_big_quiet_on|(apply Exists.intro;refine⟨fun _=>?_,?_⟩;(· (go_at_call 86;exact Calls.yK (vP _ x.zH _ (Rd.below R3.out (yJ HB.out HB.out.size (yH w4 _))))));go_big_quiet_on)))
     refine wpQuiet_nil ?_
     rintro w9 ⟨uu,rfl⟩
     have hb9:=yH w4 uu
     generalize bel w4 uu=w9 at *
     have HB9:=hide (yJ HB.out HB.out.size hb9);clear hb9 g0 g1
     go_wp2
     go_ret
     exact⟨yI (yZ fun h=>C1.out (by have:=h.arity;rwa [HKF.out] at this)).symm,HB9.out⟩
    have c1':((x.zH.length:Int) == K.inputs)=true:=yS c1;have C1:=hide c1;clear c1
    skip
    by_cases c2:x.zD=13
    ·have c2':(x.zD != 13)=false:=bneI_f c2;have C2:=hide c2;clear c2
     by_cases c3:x.fA<tables
     ·have c3':decide (x.fA<tables)=true:=decide_eq_true c3;have C3:=hide c3
      have g0:=xE HK.out;have g1:=xE HP.out
      refine xD (by kernel_rfl) (by kernel_rfl) ?_
      repeat(first|go_big_quiet_skip|(go_big_quiet_want;go_big_quiet_op;first|go_big_quiet_on|(apply Exists.intro;refine⟨fun _=>?_,?_⟩;(· (go_at_call 86;exact Calls.yK (vP _ x.zH _ (Rd.below R3.out (yJ HB.out HB.out.size (yH w4 _))))));go_big_quiet_on)))
      refine wpQuiet_nil ?_
      rintro w9 ⟨uu,rfl⟩
      have hb9:=yH w4 uu
      generalize bel w4 uu=w9 at *
      have HB9:=hide (yJ HB.out HB.out.size hb9);clear hb9 g0 g1
      go_wp2
      go_ret
      exact⟨yI (xA ⟨q0,by rw[HKF.out];exact HA.out,by rw[HKF.out,hB];exact Q2.out,hall.out,by rw[HKF.out];exact C1.out,fun _=>C3.out⟩).symm,HB9.out⟩
     ·have c3':decide (x.fA<tables)=false:=decide_eq_false c3;have C3:=hide c3
      have g0:=xE HK.out;have g1:=xE HP.out
      refine xD (by kernel_rfl) (by kernel_rfl) ?_
      repeat(first|go_big_quiet_skip|(go_big_quiet_want;go_big_quiet_op;first|go_big_quiet_on|(apply Exists.intro;refine⟨fun _=>?_,?_⟩;(· (go_at_call 86;exact Calls.yK (vP _ x.zH _ (Rd.below R3.out (yJ HB.out HB.out.size (yH w4 _))))));go_big_quiet_on)))
      refine wpQuiet_nil ?_
      rintro w9 ⟨uu,rfl⟩
      have hb9:=yH w4 uu
      generalize bel w4 uu=w9 at *
      have HB9:=hide (yJ HB.out HB.out.size hb9);clear hb9 g0 g1
      go_wp2
      go_ret
      exact⟨yI (yZ fun h=>by have:=C3.out;have:=h.table C2.out;omega).symm,HB9.out⟩
    have c2':(x.zD != 13)=true:=bneI_t c2;have C2:=hide c2;clear c2
    have g0:=xE HK.out;have g1:=xE HP.out
    refine xD (by kernel_rfl) (by kernel_rfl) ?_
    repeat(first|go_big_quiet_skip|(go_big_quiet_want;go_big_quiet_op;first|go_big_quiet_on|(apply Exists.intro;refine⟨fun _=>?_,?_⟩;(· (go_at_call 86;exact Calls.yK (vP _ x.zH _ (Rd.below R3.out (yJ HB.out HB.out.size (yH w4 _))))));go_big_quiet_on)))
    refine wpQuiet_nil ?_
    rintro w9 ⟨uu,rfl⟩
    have hb9:=yH w4 uu
    generalize bel w4 uu=w9 at *
    have HB9:=hide (yJ HB.out HB.out.size hb9);clear hb9 g0 g1
    go_wp2
    go_ret
    exact⟨yI (xA ⟨q0,by rw[HKF.out];exact HA.out,by rw[HKF.out,hB];exact Q2.out,hall.out,by rw[HKF.out];exact C1.out,fun h=>absurd h C2.out⟩).symm,HB9.out⟩
  ·have hbq:=hB
   by_cases q2:inB x.fB 1 16=true
   rotate_left
   ·have q2':inB x.fB 1 16=false:=(by simpa using q2);have Q2:=hide q2
    go_wp2_with (go_at_call 89;refine(xS _ _ _ _).mono ?_;rintro e w' ⟨rfl,rfl⟩)
    go_ret
    exact⟨yI (yZ fun h=>by have h1:=h.b;rw[HKF.out,hB] at h1;exact q2 h1).symm,HB.out⟩
   have Q2:=hide q2
   go_wp2_with (go_at_call 89;refine(xS _ _ _ _).mono ?_;rintro e w' ⟨rfl,rfl⟩)
   go_loop [63] (fun i=> ∃ k:Nat,k≤x.zH.length∧i= .int .i64 k∧vI x.zH (fun _ f=>inB f 0 23=true) k) (fun i=>x.zH.length - (intOf i).toNat)
   case atStart=>exact⟨0,Nat.zero_le _,rfl,vI.zero⟩
   case round=>
    obtain⟨k,hk,rfl,hs⟩:=hrel
    have HS:=hide hs;clear hs
    by_cases hlt:k<x.zH.length
    ·have hgk:=gE hlt
     obtain⟨b1,off,hA,hb1,hc0⟩:=HX3.out k x.zH[k] hgk
     subst hA
     generalize x.zH[k]=y at *
     have HG:=hide hgk;have hcell:=(HB.out.cell hb1).trans hc0;have hq1:b1<w4.heap.size:=lL hb1 HB.out.size;clear hgk hc0
     by_cases q3:inB y 0 23=true
     ·go_wp2_with (go_at_call 89;refine(xS _ _ _ _).mono ?_;rintro e w' ⟨rfl,rfl⟩)
      go_round
      case rel=>exact⟨k+1,by omega,by go_num,HS.out.step HG.out q3⟩
      case measure=>simp[intOf];omega
     ·have q3':inB y 0 23=false:=by simpa using q3
      go_wp2_with (go_at_call 89;refine(xS _ _ _ _).mono ?_;rintro e w' ⟨rfl,rfl⟩)
      go_ret
      exact⟨yI (yZ fun h=>q3 (h.from_ k y HG.out)).symm,HB.out⟩
    have hall:=hide (HS.out.all (by omega));clear HS
    go_wp2
    have HW:=hide (Below.refl w4.heap.size w4)
    by_cases c1:(x.zH.length:Int)=K.inputs
    rotate_left
    ·have c1':((x.zH.length:Int) == K.inputs)=false:=yR c1;have C1:=hide c1;clear c1
     have g0:=xE HK.out;have g1:=xE HP.out
     refine xD (by kernel_rfl) (by kernel_rfl) ?_
     repeat(first|go_big_quiet_skip|(go_big_quiet_want;go_big_quiet_op;first|go_big_quiet_on|(apply Exists.intro;refine⟨fun _=>?_,?_⟩;(· (go_at_call 86;exact Calls.yK (vP _ x.zH _ (Rd.below R3.out (yJ HB.out HB.out.size (yH w4 _))))));go_big_quiet_on)))
     refine wpQuiet_nil ?_
     rintro w9 ⟨uu,rfl⟩
     have hb9:=yH w4 uu
     generalize bel w4 uu=w9 at *
     have HB9:=hide (yJ HB.out HB.out.size hb9);clear hb9 g0 g1
     go_wp2
     go_ret
     exact⟨yI (yZ fun h=>C1.out (by have:=h.arity;rwa [HKF.out] at this)).symm,HB9.out⟩
    have c1':((x.zH.length:Int) == K.inputs)=true:=yS c1;have C1:=hide c1;clear c1
    skip
    by_cases c2:x.zD=13
    ·have c2':(x.zD != 13)=false:=bneI_f c2;have C2:=hide c2;clear c2
     by_cases c3:x.fA<tables
     ·have c3':decide (x.fA<tables)=true:=decide_eq_true c3;have C3:=hide c3
      have g0:=xE HK.out;have g1:=xE HP.out
      refine xD (by kernel_rfl) (by kernel_rfl) ?_
      repeat(first|go_big_quiet_skip|(go_big_quiet_want;go_big_quiet_op;first|go_big_quiet_on|(apply Exists.intro;refine⟨fun _=>?_,?_⟩;(· (go_at_call 86;exact Calls.yK (vP _ x.zH _ (Rd.below R3.out (yJ HB.out HB.out.size (yH w4 _))))));go_big_quiet_on)))
      refine wpQuiet_nil ?_
      rintro w9 ⟨uu,rfl⟩
      have hb9:=yH w4 uu
      generalize bel w4 uu=w9 at *
      have HB9:=hide (yJ HB.out HB.out.size hb9);clear hb9 g0 g1
      go_wp2
      go_ret
      exact⟨yI (xA ⟨q0,by rw[HKF.out];exact HA.out,by rw[HKF.out,hB];exact Q2.out,hall.out,by rw[HKF.out];exact C1.out,fun _=>C3.out⟩).symm,HB9.out⟩
     ·have c3':decide (x.fA<tables)=false:=decide_eq_false c3;have C3:=hide c3
      have g0:=xE HK.out;have g1:=xE HP.out
      refine xD (by kernel_rfl) (by kernel_rfl) ?_
      repeat(first|go_big_quiet_skip|(go_big_quiet_want;go_big_quiet_op;first|go_big_quiet_on|(apply Exists.intro;refine⟨fun _=>?_,?_⟩;(· (go_at_call 86;exact Calls.yK (vP _ x.zH _ (Rd.below R3.out (yJ HB.out HB.out.size (yH w4 _))))));go_big_quiet_on)))
      refine wpQuiet_nil ?_
      rintro w9 ⟨uu,rfl⟩
      have hb9:=yH w4 uu
      generalize bel w4 uu=w9 at *
      have HB9:=hide (yJ HB.out HB.out.size hb9);clear hb9 g0 g1
      go_wp2
      go_ret
      exact⟨yI (yZ fun h=>by have:=C3.out;have:=h.table C2.out;omega).symm,HB9.out⟩
    have c2':(x.zD != 13)=true:=bneI_t c2;have C2:=hide c2;clear c2
    have g0:=xE HK.out;have g1:=xE HP.out
    refine xD (by kernel_rfl) (by kernel_rfl) ?_
    repeat(first|go_big_quiet_skip|(go_big_quiet_want;go_big_quiet_op;first|go_big_quiet_on|(apply Exists.intro;refine⟨fun _=>?_,?_⟩;(· (go_at_call 86;exact Calls.yK (vP _ x.zH _ (Rd.below R3.out (yJ HB.out HB.out.size (yH w4 _))))));go_big_quiet_on)))
    refine wpQuiet_nil ?_
    rintro w9 ⟨uu,rfl⟩
    have hb9:=yH w4 uu
    generalize bel w4 uu=w9 at *
    have HB9:=hide (yJ HB.out HB.out.size hb9);clear hb9 g0 g1
    go_wp2
    go_ret
    exact⟨yI (xA ⟨q0,by rw[HKF.out];exact HA.out,by rw[HKF.out,hB];exact Q2.out,hall.out,by rw[HKF.out];exact C1.out,fun h=>absurd h C2.out⟩).symm,HB9.out⟩
 go_region_with (go_at_call 279;refine(c_kinds _).mono ?_;rintro e w' ⟨rfl,rfl⟩)
 all_goals first|(exact REST _ _ _ (((HK0.out.alloc _).alloc _).drewN 1) (Bk.drewN (by have:=Bk.born ((w.alloc (.cells #[.int .i64 x.zD,.int .i64 x.fA,.int .i64 x.fB,(.slice va3 x.zH.length vc3)] 167)).alloc (.cells kndCells 306)) 306 #[.string nm,.int .i64 K.inputs,.int .i64 K.low,.int .i64 K.high,.bool K.linear,.bool K.hasB];simpa using this) 1) (((HB0.out.alloc so _).alloc so _).drew))|(exact REST _ _ _ (((HK0.out.alloc _).alloc _).drewN 1) (Bk.drewN (by have:=(Bk.born (w.alloc (.cells #[.int .i64 x.zD,.int .i64 x.fA,.int .i64 x.fB,(.slice va3 x.zH.length vc3)] 167)) 306 #[.string nm,.int .i64 K.inputs,.int .i64 K.low,.int .i64 K.high,.bool K.linear,.bool K.hasB]).alloc (.cells kndCells 306);simpa using this) 1) (((HB0.out.alloc so _).alloc so _).drew))
end
section
open Go.RowKit
theorem c_waitsFor (x:xJ) (cs:List Value) (w:World) (h:T.rds w x.fs cs):Calls Tryz.prog 263 #[.agg cs.toArray] w fun e w'=> ∃ u,e= .returned u∧RdI w' u (vY x)∧Below w.heap.size w w':=by
 obtain⟨v3,rfl,h3⟩:=xJ.yO h
 clear h
 have h3i:=T.yT.1 h3;obtain⟨va3,vc3,rfl,vl3,vm3,vx3⟩:=h3i.open_
 have R3:=hide h3i;have HX3:=hide vx3;clear vx3 h3 h3i
 have HB0:=hide (show Below w.heap.size w (w.alloc (.cells #[.int .i64 x.zD,.int .i64 x.fA,.int .i64 x.fB,(.slice va3 x.zH.length vc3)] 167)) from(Below.refl _ _).alloc (Nat.le_refl _) _)
 have HK0:=hide (Bk.born w 167 #[.int .i64 x.zD,.int .i64 x.fA,.int .i64 x.fB,(.slice va3 x.zH.length vc3)])
 have HR:=hide (RdI.below R3.out HB0.out)
 by_cases h6:x.zD=6
 ·have h6':(x.zD == 6)=true:=yS h6;have H6:=hide h6;clear h6
  go_enter Tryz.func263,Tryz.ntmps263
  go_wp2
  go_ret
  exact⟨_,rfl,by unfold vY;rw[if_pos H6.out];exact Rd.nil_ _ _,HB0.out⟩
 ·have h6':(x.zD == 6)=false:=yR h6;have H6:=hide h6;clear h6
  go_enter Tryz.func263,Tryz.ntmps263
  go_wp2
  go_ret
  exact⟨_,rfl,by unfold vY;rw[if_neg H6.out];exact HR.out,HB0.out⟩
theorem c_isWellFormed (x:xG) (cs:List Value) (w:World) (h:T.rds w x.fs cs):Calls Tryz.prog 222 #[.agg cs.toArray] w fun e w'=>e= .returned (.bool (tf (FormedOk x)))∧Below w.heap.size w w':=by
 obtain⟨v1,v2,v3,rfl,h1,h2,h3⟩:=xG.yO h
 clear h
 have R1:=hide h1;obtain⟨va1,vc1,rfl,vl1,vm1,vx1⟩:=T.yN h1
 have HX1:=hide vx1;clear vx1 h1
 have R2:=hide h2;obtain⟨va2,vc2,rfl,vl2,vm2,vx2⟩:=T.yN h2
 have HX2:=hide vx2;clear vx2 h2
 have h3i:=T.yT.1 h3;obtain⟨va3,vc3,rfl,vl3,vm3,vx3⟩:=h3i.open_
 have R3:=hide h3i;have HX3:=hide vx3;clear vx3 h3 h3i
 have HB0:=hide (show Below w.heap.size w (w.alloc (.cells #[.int .i64 x.zJ,(.slice va1 x.zN.length vc1),(.slice va2 x.zB.length vc2),(.slice va3 x.zK.length vc3)] 108)) from(Below.refl _ _).alloc (Nat.le_refl _) _)
 have HK0:=hide (Bk.born w 108 #[.int .i64 x.zJ,(.slice va1 x.zN.length vc1),(.slice va2 x.zB.length vc2),(.slice va3 x.zK.length vc3)])
 go_enter Tryz.func222,Tryz.ntmps222
 by_cases q1:inB x.zJ 0 4=true
 rotate_left
 ·have q1':inB x.zJ 0 4=false:=(by simpa using q1)
  go_wp2_with (first|(go_at_call 89;refine(xS _ _ _ _).mono ?_;rintro e w' ⟨rfl,rfl⟩)|(go_at_call 260;refine(c_sizeNode _ _ _ _ (by omega)).mono ?_;rintro e w' ⟨rfl,rfl⟩)|(go_at_call 261;refine(c_areTables _ x.zN _ (T.yF R1.out HB0.out)).mono ?_;rintro e w' ⟨rfl,rfl⟩;rw[a2])|(go_at_call 86;refine(vP _ x.zK _ (Rd.below R3.out HB0.out)).mono ?_;rintro e w' ⟨rfl,rfl⟩)|(go_at_call 105;refine(wQ _ x.zK _ _ (Rd.below R3.out HB0.out) (by omega) (by omega)).mono ?_;rintro e w' ⟨rfl,rfl⟩;rw[a5]))
  go_ret
  exact⟨yI (yZ fun h=>q1 h.inputs).symm,HB0.out⟩
 skip
 by_cases q2:TablesOk x.zN
 rotate_left
 ·have a2:=yZ q2;have Q2:=hide q2;clear q2
  go_wp2_with (first|(go_at_call 89;refine(xS _ _ _ _).mono ?_;rintro e w' ⟨rfl,rfl⟩)|(go_at_call 260;refine(c_sizeNode _ _ _ _ (by omega)).mono ?_;rintro e w' ⟨rfl,rfl⟩)|(go_at_call 261;refine(c_areTables _ x.zN _ (T.yF R1.out HB0.out)).mono ?_;rintro e w' ⟨rfl,rfl⟩;rw[a2])|(go_at_call 86;refine(vP _ x.zK _ (Rd.below R3.out HB0.out)).mono ?_;rintro e w' ⟨rfl,rfl⟩)|(go_at_call 105;refine(wQ _ x.zK _ _ (Rd.below R3.out HB0.out) (by omega) (by omega)).mono ?_;rintro e w' ⟨rfl,rfl⟩;rw[a5]))
  go_ret
  exact⟨yI (yZ fun h=>Q2.out h.tables).symm,HB0.out⟩
 have a2:=xA q2;have Q2:=hide q2;clear q2
 by_cases q3:x.zB.length≤24
 rotate_left
 ·have Q3:=hide q3
  go_wp2_with (first|(go_at_call 89;refine(xS _ _ _ _).mono ?_;rintro e w' ⟨rfl,rfl⟩)|(go_at_call 260;refine(c_sizeNode _ _ _ _ (by omega)).mono ?_;rintro e w' ⟨rfl,rfl⟩)|(go_at_call 261;refine(c_areTables _ x.zN _ (T.yF R1.out HB0.out)).mono ?_;rintro e w' ⟨rfl,rfl⟩;rw[a2])|(go_at_call 86;refine(vP _ x.zK _ (Rd.below R3.out HB0.out)).mono ?_;rintro e w' ⟨rfl,rfl⟩)|(go_at_call 105;refine(wQ _ x.zK _ _ (Rd.below R3.out HB0.out) (by omega) (by omega)).mono ?_;rintro e w' ⟨rfl,rfl⟩;rw[a5]))
  go_ret
  exact⟨yI (yZ fun h=>q3 h.few).symm,HB0.out⟩
 have Q3:=hide q3
 by_cases q4:x.zK.length≤4
 rotate_left
 ·have Q4:=hide q4
  go_wp2_with (first|(go_at_call 89;refine(xS _ _ _ _).mono ?_;rintro e w' ⟨rfl,rfl⟩)|(go_at_call 260;refine(c_sizeNode _ _ _ _ (by omega)).mono ?_;rintro e w' ⟨rfl,rfl⟩)|(go_at_call 261;refine(c_areTables _ x.zN _ (T.yF R1.out HB0.out)).mono ?_;rintro e w' ⟨rfl,rfl⟩;rw[a2])|(go_at_call 86;refine(vP _ x.zK _ (Rd.below R3.out HB0.out)).mono ?_;rintro e w' ⟨rfl,rfl⟩)|(go_at_call 105;refine(wQ _ x.zK _ _ (Rd.below R3.out HB0.out) (by omega) (by omega)).mono ?_;rintro e w' ⟨rfl,rfl⟩;rw[a5]))
  go_ret
  exact⟨yI (yZ fun h=>q4 h.outs).symm,HB0.out⟩
 have Q4:=hide q4
 by_cases q5:Idx x.zK (x.zB.length:Int)
 rotate_left
 ·have a5:=yZ q5;have Q5:=hide q5;clear q5
  go_wp2_with (first|(go_at_call 89;refine(xS _ _ _ _).mono ?_;rintro e w' ⟨rfl,rfl⟩)|(go_at_call 260;refine(c_sizeNode _ _ _ _ (by omega)).mono ?_;rintro e w' ⟨rfl,rfl⟩)|(go_at_call 261;refine(c_areTables _ x.zN _ (T.yF R1.out HB0.out)).mono ?_;rintro e w' ⟨rfl,rfl⟩;rw[a2])|(go_at_call 86;refine(vP _ x.zK _ (Rd.below R3.out HB0.out)).mono ?_;rintro e w' ⟨rfl,rfl⟩)|(go_at_call 105;refine(wQ _ x.zK _ _ (Rd.below R3.out HB0.out) (by omega) (by omega)).mono ?_;rintro e w' ⟨rfl,rfl⟩;rw[a5]))
  go_ret
  exact⟨yI (yZ fun h=>Q5.out h.outputs).symm,HB0.out⟩
 have a5:=xA q5;have Q5:=hide q5;clear q5
 go_wp2_with (first|(go_at_call 89;refine(xS _ _ _ _).mono ?_;rintro e w' ⟨rfl,rfl⟩)|(go_at_call 260;refine(c_sizeNode _ _ _ _ (by omega)).mono ?_;rintro e w' ⟨rfl,rfl⟩)|(go_at_call 261;refine(c_areTables _ x.zN _ (T.yF R1.out HB0.out)).mono ?_;rintro e w' ⟨rfl,rfl⟩;rw[a2])|(go_at_call 86;refine(vP _ x.zK _ (Rd.below R3.out HB0.out)).mono ?_;rintro e w' ⟨rfl,rfl⟩)|(go_at_call 105;refine(wQ _ x.zK _ _ (Rd.below R3.out HB0.out) (by omega) (by omega)).mono ?_;rintro e w' ⟨rfl,rfl⟩;rw[a5]))
 clear a2 a5
 go_loopw [39] (fun i wr=> ∃ k:Nat,k≤x.zB.length∧i= .int .i64 k∧vI x.zB (fun _ x_1=>NodeOk x_1 (x.zN.length:Int)∧Idx x_1.zH (x.zB.length:Int)∧(x_1.zD=1→x_1.fA<x.zJ)) k∧Below (w.alloc (.cells #[.int .i64 x.zJ,(.slice va1 x.zN.length vc1),(.slice va2 x.zB.length vc2),(.slice va3 x.zK.length vc3)] 108)).heap.size (w.alloc (.cells #[.int .i64 x.zJ,(.slice va1 x.zN.length vc1),(.slice va2 x.zB.length vc2),(.slice va3 x.zK.length vc3)] 108)) wr) (fun i _=>x.zB.length - (intOf i).toNat)
 case atStart=>exact⟨0,Nat.zero_le _,rfl,vI.zero,Below.refl _ _⟩
 case round=>
  obtain⟨k,hk,rfl,hs,hbw⟩:=hrel
  have HS:=hide hs;have HW:=hide hbw;have HB:=hide (yJ HB0.out HB0.out.size hbw);have HK:=hide (HK0.out.below hbw HK0.out.lt);clear hs hbw
  have ka:=HK.out.cell;have la:=HK.out.lt
  by_cases hlt:k<x.zB.length
  rotate_left
  ·have hall:=hide (HS.out.all (by omega));clear HS
   go_wp2
   go_ret
   exact⟨yI (xA ⟨q1,Q2.out,Q3.out,Q4.out,Q5.out,hall.out⟩).symm,HB.out⟩
  have hgk:=gE hlt
  obtain⟨b1,off,cs1,hA,hb1,hcs,hcell⟩:=HX2.out k x.zB[k] hgk
  subst hA
  generalize x.zB[k]=y at *
  have HG:=hide hgk;clear hgk
  obtain⟨u3,rfl,hRY3⟩:=xJ.yO (show T.rds _ _ _ by simpa only[xJ.t,T.rd] using hcs)
  have d0:=(HB.out.cell hb1).trans (hcell 0 (.int .i64 y.zD) rfl)
  have d1:=(HB.out.cell hb1).trans (hcell 1 (.int .i64 y.fA) rfl)
  have d2:=(HB.out.cell hb1).trans (hcell 2 (.int .i64 y.fB) rfl)
  have d3:=(HB.out.cell hb1).trans (hcell 3 (u3) rfl)
  rw[show off+(k * 4+0)=off+k * 4 by omega] at d0
  rw[show off+(k * 4+1)=off+k * 4+1 by omega] at d1
  rw[show off+(k * 4+2)=off+k * 4+2 by omega] at d2
  rw[show off+(k * 4+3)=off+k * 4+3 by omega] at d3
  have RY3:=hide (T.yF hRY3 HB.out);clear hRY3
  clear hcs hcell
  have RY3i:=hide (T.yT.1 RY3.out);obtain⟨ua3,uc3,rfl,ul3,um3,ux3⟩:=RY3i.out.open_;clear ux3
  have hq1:b1<wr.heap.size:=lL hb1 HB.out.size
  by_cases p1:NodeOk y (x.zN.length:Int)
  rotate_left
  ·have b1':=yZ p1;have P1:=hide p1;clear p1
   have hWb:Below wr.heap.size wr (wr.alloc (.cells #[.int .i64 y.zD,.int .i64 y.fA,.int .i64 y.fB,(.slice ua3 y.zH.length uc3)] 167)):=(Below.refl _ _).alloc (Nat.le_refl _) _
   have hNb:=Bk.born wr 167 #[.int .i64 y.zD,.int .i64 y.fA,.int .i64 y.fB,(.slice ua3 y.zH.length uc3)]
   go_wp2
   generalize wr.alloc (.cells #[.int .i64 y.zD,.int .i64 y.fA,.int .i64 y.fB,(.slice ua3 y.zH.length uc3)] 167)=W at *
   have HWb:=hide hWb;have HNb:=hide hNb;have HKW:=hide (HK.out.below hWb HK.out.lt)
   have g0:=xE hNb;have g1:=xE HKW.out
   clear hWb hNb
   refine xD (by kernel_rfl) (by kernel_rfl) ?_
   repeat(first|go_big_quiet_skip|(go_big_quiet_want;go_big_quiet_op;first|go_big_quiet_on|(apply Exists.intro;refine⟨fun _=>?_,?_⟩;(· (first|(go_at_call 109;exact Calls.yK (c_sizeLL _ _ _ _ (by omega)))|(go_at_call 262;exact Calls.yL ((c_isNode y _ _ _ (xJ.rd_mk (T.yF RY3.out (yJ HWb.out HWb.out.size (yH W _))))).mono (fun e w' h=>by rw[b1'] at h;exact h)))|(go_at_call 105;exact Calls.yK ((wQ _ y.zH _ _ (Rd.below RY3i.out (yJ HWb.out HWb.out.size (yH W _))) (by omega) (by omega)).mono (fun e w' h=>by rw[b2'] at h;exact h)))));go_big_quiet_on)))
   refine wpQuiet_nil ?_
   rintro w9 ⟨uu,rfl⟩
   have hb9:=yH W uu
   generalize bel W uu=w9 at *
   have HC:=hide (yJ HWb.out HWb.out.size hb9);have HC2:=hide (yJ HB.out HB.out.size HC.out);have HC3:=hide (yJ HW.out HW.out.size HC.out)
   clear hb9 g0 g1
   go_wp2
   go_ret
   exact⟨yI (yZ fun h=>P1.out (h.nodes k y HG.out).1).symm,HC2.out⟩
  have b1':=xA p1;have P1:=hide p1;clear p1
  by_cases p2:Idx y.zH (x.zB.length:Int)
  rotate_left
  ·have b2':=yZ p2;have P2:=hide p2;clear p2
   have hWb:Below wr.heap.size wr (wr.alloc (.cells #[.int .i64 y.zD,.int .i64 y.fA,.int .i64 y.fB,(.slice ua3 y.zH.length uc3)] 167)):=(Below.refl _ _).alloc (Nat.le_refl _) _
   have hNb:=Bk.born wr 167 #[.int .i64 y.zD,.int .i64 y.fA,.int .i64 y.fB,(.slice ua3 y.zH.length uc3)]
   go_wp2
   generalize wr.alloc (.cells #[.int .i64 y.zD,.int .i64 y.fA,.int .i64 y.fB,(.slice ua3 y.zH.length uc3)] 167)=W at *
   have HWb:=hide hWb;have HNb:=hide hNb;have HKW:=hide (HK.out.below hWb HK.out.lt)
   have g0:=xE hNb;have g1:=xE HKW.out
   clear hWb hNb
   refine xD (by kernel_rfl) (by kernel_rfl) ?_
   repeat(first|go_big_quiet_skip|(go_big_quiet_want;go_big_quiet_op;first|go_big_quiet_on|(apply Exists.intro;refine⟨fun _=>?_,?_⟩;(· (first|(go_at_call 109;exact Calls.yK (c_sizeLL _ _ _ _ (by omega)))|(go_at_call 262;exact Calls.yL ((c_isNode y _ _ _ (xJ.rd_mk (T.yF RY3.out (yJ HWb.out HWb.out.size (yH W _))))).mono (fun e w' h=>by rw[b1'] at h;exact h)))|(go_at_call 105;exact Calls.yK ((wQ _ y.zH _ _ (Rd.below RY3i.out (yJ HWb.out HWb.out.size (yH W _))) (by omega) (by omega)).mono (fun e w' h=>by rw[b2'] at h;exact h)))));go_big_quiet_on)))
   refine wpQuiet_nil ?_
   rintro w9 ⟨uu,rfl⟩
   have hb9:=yH W uu
   generalize bel W uu=w9 at *
   have HC:=hide (yJ HWb.out HWb.out.size hb9);have HC2:=hide (yJ HB.out HB.out.size HC.out);have HC3:=hide (yJ HW.out HW.out.size HC.out)
   clear hb9 g0 g1
   go_wp2
   go_ret
   exact⟨yI (yZ fun h=>P2.out (h.nodes k y HG.out).2.1).symm,HC2.out⟩
  have b2':=xA p2;have P2:=hide p2;clear p2
  by_cases p3:y.zD=1
  rotate_left
  ·have p3':(y.zD == 1)=false:=yR p3;have P3:=hide p3;clear p3
   have hWb:Below wr.heap.size wr (wr.alloc (.cells #[.int .i64 y.zD,.int .i64 y.fA,.int .i64 y.fB,(.slice ua3 y.zH.length uc3)] 167)):=(Below.refl _ _).alloc (Nat.le_refl _) _
   have hNb:=Bk.born wr 167 #[.int .i64 y.zD,.int .i64 y.fA,.int .i64 y.fB,(.slice ua3 y.zH.length uc3)]
   go_wp2
   generalize wr.alloc (.cells #[.int .i64 y.zD,.int .i64 y.fA,.int .i64 y.fB,(.slice ua3 y.zH.length uc3)] 167)=W at *
   have HWb:=hide hWb;have HNb:=hide hNb;have HKW:=hide (HK.out.below hWb HK.out.lt)
   have g0:=xE hNb;have g1:=xE HKW.out
   clear hWb hNb
   refine xD (by kernel_rfl) (by kernel_rfl) ?_
   repeat(first|go_big_quiet_skip|(go_big_quiet_want;go_big_quiet_op;first|go_big_quiet_on|(apply Exists.intro;refine⟨fun _=>?_,?_⟩;(· (first|(go_at_call 109;exact Calls.yK (c_sizeLL _ _ _ _ (by omega)))|(go_at_call 262;exact Calls.yL ((c_isNode y _ _ _ (xJ.rd_mk (T.yF RY3.out (yJ HWb.out HWb.out.size (yH W _))))).mono (fun e w' h=>by rw[b1'] at h;exact h)))|(go_at_call 105;exact Calls.yK ((wQ _ y.zH _ _ (Rd.below RY3i.out (yJ HWb.out HWb.out.size (yH W _))) (by omega) (by omega)).mono (fun e w' h=>by rw[b2'] at h;exact h)))));go_big_quiet_on)))
   refine wpQuiet_nil ?_
   rintro w9 ⟨uu,rfl⟩
   have hb9:=yH W uu
   generalize bel W uu=w9 at *
   have HC:=hide (yJ HWb.out HWb.out.size hb9);have HC2:=hide (yJ HB.out HB.out.size HC.out);have HC3:=hide (yJ HW.out HW.out.size HC.out)
   clear hb9 g0 g1
   go_wp2
   go_roundw
   case rel=>exact⟨k+1,by omega,by go_num,HS.out.step HG.out ⟨P1.out,P2.out,fun h=>absurd h P3.out⟩,HC3.out⟩
   case measure=>simp[intOf];omega
  have p3':(y.zD == 1)=true:=yS p3;have P3:=hide p3;clear p3
  by_cases p4:x.zJ≤y.fA
  ·have p4':decide (x.zJ≤y.fA)=true:=decide_eq_true p4;have P4:=hide p4
   have hWb:Below wr.heap.size wr (wr.alloc (.cells #[.int .i64 y.zD,.int .i64 y.fA,.int .i64 y.fB,(.slice ua3 y.zH.length uc3)] 167)):=(Below.refl _ _).alloc (Nat.le_refl _) _
   have hNb:=Bk.born wr 167 #[.int .i64 y.zD,.int .i64 y.fA,.int .i64 y.fB,(.slice ua3 y.zH.length uc3)]
   go_wp2
   generalize wr.alloc (.cells #[.int .i64 y.zD,.int .i64 y.fA,.int .i64 y.fB,(.slice ua3 y.zH.length uc3)] 167)=W at *
   have HWb:=hide hWb;have HNb:=hide hNb;have HKW:=hide (HK.out.below hWb HK.out.lt)
   have g0:=xE hNb;have g1:=xE HKW.out
   clear hWb hNb
   refine xD (by kernel_rfl) (by kernel_rfl) ?_
   repeat(first|go_big_quiet_skip|(go_big_quiet_want;go_big_quiet_op;first|go_big_quiet_on|(apply Exists.intro;refine⟨fun _=>?_,?_⟩;(· (first|(go_at_call 109;exact Calls.yK (c_sizeLL _ _ _ _ (by omega)))|(go_at_call 262;exact Calls.yL ((c_isNode y _ _ _ (xJ.rd_mk (T.yF RY3.out (yJ HWb.out HWb.out.size (yH W _))))).mono (fun e w' h=>by rw[b1'] at h;exact h)))|(go_at_call 105;exact Calls.yK ((wQ _ y.zH _ _ (Rd.below RY3i.out (yJ HWb.out HWb.out.size (yH W _))) (by omega) (by omega)).mono (fun e w' h=>by rw[b2'] at h;exact h)))));go_big_quiet_on)))
   refine wpQuiet_nil ?_
   rintro w9 ⟨uu,rfl⟩
   have hb9:=yH W uu
   generalize bel W uu=w9 at *
   have HC:=hide (yJ HWb.out HWb.out.size hb9);have HC2:=hide (yJ HB.out HB.out.size HC.out);have HC3:=hide (yJ HW.out HW.out.size HC.out)
   clear hb9 g0 g1
   go_wp2
   go_ret
   exact⟨yI (yZ fun h=>by have:=(h.nodes k y HG.out).2.2 P3.out;have:=P4.out;omega).symm,HC2.out⟩
  have p4':decide (x.zJ≤y.fA)=false:=decide_eq_false p4;have P4:=hide p4
  have hWb:Below wr.heap.size wr (wr.alloc (.cells #[.int .i64 y.zD,.int .i64 y.fA,.int .i64 y.fB,(.slice ua3 y.zH.length uc3)] 167)):=(Below.refl _ _).alloc (Nat.le_refl _) _
  have hNb:=Bk.born wr 167 #[.int .i64 y.zD,.int .i64 y.fA,.int .i64 y.fB,(.slice ua3 y.zH.length uc3)]
  go_wp2
  generalize wr.alloc (.cells #[.int .i64 y.zD,.int .i64 y.fA,.int .i64 y.fB,(.slice ua3 y.zH.length uc3)] 167)=W at *
  have HWb:=hide hWb;have HNb:=hide hNb;have HKW:=hide (HK.out.below hWb HK.out.lt)
  have g0:=xE hNb;have g1:=xE HKW.out
  clear hWb hNb
  refine xD (by kernel_rfl) (by kernel_rfl) ?_
  repeat(first|go_big_quiet_skip|(go_big_quiet_want;go_big_quiet_op;first|go_big_quiet_on|(apply Exists.intro;refine⟨fun _=>?_,?_⟩;(· (first|(go_at_call 109;exact Calls.yK (c_sizeLL _ _ _ _ (by omega)))|(go_at_call 262;exact Calls.yL ((c_isNode y _ _ _ (xJ.rd_mk (T.yF RY3.out (yJ HWb.out HWb.out.size (yH W _))))).mono (fun e w' h=>by rw[b1'] at h;exact h)))|(go_at_call 105;exact Calls.yK ((wQ _ y.zH _ _ (Rd.below RY3i.out (yJ HWb.out HWb.out.size (yH W _))) (by omega) (by omega)).mono (fun e w' h=>by rw[b2'] at h;exact h)))));go_big_quiet_on)))
  refine wpQuiet_nil ?_
  rintro w9 ⟨uu,rfl⟩
  have hb9:=yH W uu
  generalize bel W uu=w9 at *
  have HC:=hide (yJ HWb.out HWb.out.size hb9);have HC2:=hide (yJ HB.out HB.out.size HC.out);have HC3:=hide (yJ HW.out HW.out.size HC.out)
  clear hb9 g0 g1
  go_wp2
  go_roundw
  case rel=>exact⟨k+1,by omega,by go_num,HS.out.step HG.out ⟨P1.out,P2.out,fun _=>by have:=P4.out;omega⟩,HC3.out⟩
  case measure=>simp[intOf];omega
end
end Go.Proofs.YtoibekfhepnedaaGreat
