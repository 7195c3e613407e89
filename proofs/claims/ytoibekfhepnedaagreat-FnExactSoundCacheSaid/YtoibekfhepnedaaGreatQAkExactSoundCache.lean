/- Contracts: what is valid, by the program: nodes. -/
import Derived.Test.YtoibekfhepnedaaGreatQAjExactSoundCache
import Derived.Deep.RegionWith
set_option linter.unusedVariables false
set_option linter.unusedSimpArgs false
set_option maxHeartbeats 2000000
set_option maxRecDepth 20000
namespace Go.Proofs.YtoibekfhepnedaaGreat
open Go.RowKit
theorem c_isNode (x:GNode) (cs:List Value) (tables:Int) (w:World) (h:T.rds w x.fs cs):Calls Tryz.prog 262 #[.agg cs.toArray,.int .i64 tables] w fun e w'=>e= .returned (.bool (tf (NodeOk x tables)))∧Below w.heap.size w w':=by
 obtain⟨v3,rfl,h3⟩:=GNode.yN h
 clear h
 have h3i:=T.yR.1 h3;obtain⟨va3,vc3,rfl,vl3,vm3,vx3⟩:=h3i.open_
 have R3:=hide h3i;have HX3:=hide vx3;clear vx3 h3 h3i
 have HB0:=hide (show Below w.heap.size w (w.alloc (.cells #[.int .i64 x.zD,.int .i64 x.fA,.int .i64 x.fB,(.slice va3 x.zH.length vc3)] 167)) from(Below.refl _ _).alloc (Nat.le_refl _) _)
 have HK0:=hide (Bk.born w 167 #[.int .i64 x.zD,.int .i64 x.fA,.int .i64 x.fB,(.slice va3 x.zH.length vc3)])
 have hB0:=HB0.out;have ka0:=HK0.out.cell
 go_enter Tryz.func262,Tryz.ntmps262
 by_cases q0:inB x.zD 1 17=true
 rotate_left
 ·have q0':inB x.zD 1 17=false:=by simpa using q0
  go_wp2_with (go_at_call 278;refine(c_isKind _ _).mono ?_;rintro e w' ⟨rfl,rfl⟩)
  go_ret
  exact⟨yH (yW fun h=>q0 h.kind).symm,HB0.out⟩
 have hk:=yZ.1 q0
 obtain⟨i,hi,hki⟩: ∃ i:Nat,i<17∧x.zD=(i:Int)+1:=⟨(x.zD - 1).toNat,by omega,by omega⟩
 obtain⟨r0,r1,r2,r3,r4,r5⟩:=kndCells_at hi
 generalize hK:kndL.getD i ⟨0,0,0,false,false⟩=K at *
 generalize kndName i=nm at *
 have e1:IntKind.i64.wrap (x.zD - 1)=(i:Int):=by rw[IntWalk.i64_in _ (by omega)];omega
 have HF:kndF x.zD=K:=by rw[←hK,hki];unfold kndF;congr 1;omega
 have HKF:=hide HF;have HKI:=hide hki;clear HF hki hK hk
 have n0:(0:Int)≤(i:Int):=by omega
 have n1:(i:Int)<17:=by omega
 go_wp2_with (go_at_call 278;refine(c_isKind _ _).mono ?_;rintro e w' ⟨rfl,rfl⟩)
 rename_i Q1 K1 hK1
 have REST: ∀ (p g:Nat) (W:World),Bk W w.heap.size 167 #[.int .i64 x.zD,.int .i64 x.fA,.int .i64 x.fB,(.slice va3 x.zH.length vc3)]→Bk W p 306 #[.string nm,.int .i64 K.inputs,.int .i64 K.low,.int .i64 K.high,.bool K.linear,.bool K.hasB]→Below w.heap.size w W→K1 { tmps:= #[.agg #[.int .i64 x.zD,.int .i64 x.fA,.int .i64 x.fB,(.slice va3 x.zH.length vc3)],.int .i64 tables,.pointer (some ⟨w.heap.size,0,none⟩),undef,.bool false,.pointer (some ⟨p,0,none⟩),undef,undef,.pointer (some ⟨w.heap.size,0,none⟩),.int .i64 x.zD,.bool true,.bool false,.slice (some ⟨g,0,none⟩) 17 17,.pointer (some ⟨w.heap.size,0,none⟩),.int .i64 x.zD,.int .i64 (i:Int),.pointer (some ⟨g,i * 6,none⟩),.agg #[.string nm,.int .i64 K.inputs,.int .i64 K.low,.int .i64 K.high,.bool K.linear,.bool K.hasB],undef,undef,undef,undef,undef,undef,undef,undef,undef,undef,undef,undef,undef,undef,undef,undef,undef,undef,undef,undef,undef,undef,undef,undef,undef,undef,undef,undef,undef,undef,undef,undef,undef,undef,undef,undef,undef,undef,undef,undef,undef,undef,undef,undef,undef,undef,undef,undef,undef,undef,undef,undef,undef,undef,undef,undef,undef,undef,undef,undef,undef,undef,undef,undef,undef,undef,undef,undef,undef,undef],defers:= [] } W:=by
  intro p g W hbk hbp hbw
  have HK:=hide hbk;have HP:=hide hbp;have HB:=hide hbw;clear hbk hbp hbw r0 r1 r2 r3 r4 r5 hB0 ka0
  have ka:=HK.out.cell;have kp:=HP.out.cell;have hsz:=HB.out.size;have la:=HK.out.lt;have lp:=HP.out.lt
  refine hK1 _ _ ?_
  by_cases a0:K.low≤K.high
  ·have a1:decide (K.low≤K.high)=true:=decide_eq_true a0
   go_wp2_with (go_at_call 89;refine(c_within _ _ _ _).mono ?_;rintro e w' ⟨rfl,rfl⟩)
   refine(c_hasA _ _ _ _ _ _ _).mono ?_;rintro e w3 ⟨rfl,hb⟩;rw[a1]
   replace HK:=hide (HK.out.below hb la);replace HP:=hide (HP.out.below hb lp);replace HB:=hide (yI HB.out HB.out.size hb);clear hb ka kp la lp hsz
   have ka:=HK.out.cell;have kp:=HP.out.cell;have hsz:=HB.out.size;have la:=HK.out.lt;have lp:=HP.out.lt
   by_cases q1:inB x.fA K.low K.high=true
   rotate_left
   ·have q1':inB x.fA K.low K.high=false:=by simpa using q1
    go_wp2_with (go_at_call 89;refine(c_within _ _ _ _).mono ?_;rintro e w' ⟨rfl,rfl⟩)
    go_ret
    exact⟨yH (yW fun h=>by have h1:=h.a;rw[HKF.out,if_pos a0] at h1;exact q1 h1).symm,HB.out⟩
   have HA:=hide (show if K.low≤K.high then inB x.fA K.low K.high=true else x.fA=0 by rw[if_pos a0];exact q1)
   go_wp2_with (go_at_call 89;refine(c_within _ _ _ _).mono ?_;rintro e w' ⟨rfl,rfl⟩)
   refine(c_hasA _ _ _ _ _ _ _).mono ?_;rintro e w4 ⟨rfl,hb⟩;rw[a1]
   replace HK:=hide (HK.out.below hb la);replace HP:=hide (HP.out.below hb lp);replace HB:=hide (yI HB.out HB.out.size hb);clear hb ka kp la lp hsz
   have ka:=HK.out.cell;have kp:=HP.out.cell;have hsz:=HB.out.size;have la:=HK.out.lt;have lp:=HP.out.lt
   cases hB:K.hasB
   ·have hbq:=hB
    by_cases q2:x.fB=0
    rotate_left
    ·have q2':(x.fB != 0)=true:=bneI_t q2;have Q2:=hide q2;clear q2
     go_wp2_with (go_at_call 89;refine(c_within _ _ _ _).mono ?_;rintro e w' ⟨rfl,rfl⟩)
     go_ret
     exact⟨yH (yW fun h=>by have h1:=h.b;rw[HKF.out,hB] at h1;exact Q2.out h1).symm,HB.out⟩
    have q2':(x.fB != 0)=false:=bneI_f q2;have Q2:=hide q2;clear q2
    go_wp2_with (go_at_call 89;refine(c_within _ _ _ _).mono ?_;rintro e w' ⟨rfl,rfl⟩)
    go_loop [63] (fun i=> ∃ k:Nat,k≤x.zH.length∧i= .int .i64 k∧Upto x.zH (fun _ f=>inB f 0 23=true) k) (fun i=>x.zH.length - (intOf i).toNat)
    case atStart=>exact⟨0,Nat.zero_le _,rfl,Upto.zero⟩
    case round=>
     obtain⟨k,hk,rfl,hs⟩:=hrel
     have HS:=hide hs;clear hs
     by_cases hlt:k<x.zH.length
     ·have hgk:=List.getElem?_eq_getElem hlt
      obtain⟨b1,off,hA,hb1,hc0⟩:=HX3.out k x.zH[k] hgk
      subst hA
      generalize x.zH[k]=y at *
      have HG:=hide hgk;have hcell:=(HB.out.cell hb1).trans hc0;have hq1:b1<w4.heap.size:=Nat.lt_of_lt_of_le hb1 HB.out.size;clear hgk hc0
      by_cases q3:inB y 0 23=true
      ·go_wp2_with (go_at_call 89;refine(c_within _ _ _ _).mono ?_;rintro e w' ⟨rfl,rfl⟩)
       go_round
       case rel=>exact⟨k+1,by omega,by go_num,HS.out.step HG.out q3⟩
       case measure=>simp[intOf];omega
      ·have q3':inB y 0 23=false:=by simpa using q3
       go_wp2_with (go_at_call 89;refine(c_within _ _ _ _).mono ?_;rintro e w' ⟨rfl,rfl⟩)
       go_ret
       exact⟨yH (yW fun h=>q3 (h.from_ k y HG.out)).symm,HB.out⟩
     have hall:=hide (HS.out.all (by omega));clear HS
     go_wp2
     have HW:=hide (Below.refl w4.heap.size w4)
     by_cases c1:(x.zH.length:Int)=K.inputs
     rotate_left
     ·have c1':((x.zH.length:Int) == K.inputs)=false:=yP c1;have C1:=hide c1;clear c1
      have g0:=xB HK.out;have g1:=xB HP.out
      refine xA (by kernel_rfl) (by kernel_rfl) ?_
      repeat(first|go_big_quiet_skip|(go_big_quiet_want;go_big_quiet_op;first|go_big_quiet_on|(apply Exists.intro;refine⟨fun _=>?_,?_⟩;(· (go_at_call 86;exact Calls.yJ (c_size _ x.zH _ (Rd.below R3.out (yI HB.out HB.out.size (yG w4 _))))));go_big_quiet_on)))
      refine wpQuiet_nil ?_
      rintro w9 ⟨uu,rfl⟩
      have hb9:=yG w4 uu
      generalize bel w4 uu=w9 at *
      have HB9:=hide (yI HB.out HB.out.size hb9);clear hb9 g0 g1
      go_wp2
      go_ret
      exact⟨yH (yW fun h=>C1.out (by have:=h.arity;rwa [HKF.out] at this)).symm,HB9.out⟩
     have c1':((x.zH.length:Int) == K.inputs)=true:=yQ c1;have C1:=hide c1;clear c1
     skip
     by_cases c2:x.zD=13
     ·have c2':(x.zD != 13)=false:=bneI_f c2;have C2:=hide c2;clear c2
      by_cases c3:x.fA<tables
      ·have c3':decide (x.fA<tables)=true:=decide_eq_true c3;have C3:=hide c3
       have g0:=xB HK.out;have g1:=xB HP.out
       refine xA (by kernel_rfl) (by kernel_rfl) ?_
       repeat(first|go_big_quiet_skip|(go_big_quiet_want;go_big_quiet_op;first|go_big_quiet_on|(apply Exists.intro;refine⟨fun _=>?_,?_⟩;(· (go_at_call 86;exact Calls.yJ (c_size _ x.zH _ (Rd.below R3.out (yI HB.out HB.out.size (yG w4 _))))));go_big_quiet_on)))
       refine wpQuiet_nil ?_
       rintro w9 ⟨uu,rfl⟩
       have hb9:=yG w4 uu
       generalize bel w4 uu=w9 at *
       have HB9:=hide (yI HB.out HB.out.size hb9);clear hb9 g0 g1
       go_wp2
       go_ret
       exact⟨yH (yX ⟨q0,by rw[HKF.out];exact HA.out,by rw[HKF.out,hB];exact Q2.out,hall.out,by rw[HKF.out];exact C1.out,fun _=>C3.out⟩).symm,HB9.out⟩
      ·have c3':decide (x.fA<tables)=false:=decide_eq_false c3;have C3:=hide c3
       have g0:=xB HK.out;have g1:=xB HP.out
       refine xA (by kernel_rfl) (by kernel_rfl) ?_
       repeat(first|go_big_quiet_skip|(go_big_quiet_want;go_big_quiet_op;first|go_big_quiet_on|(apply Exists.intro;refine⟨fun _=>?_,?_⟩;(· (go_at_call 86;exact Calls.yJ (c_size _ x.zH _ (Rd.below R3.out (yI HB.out HB.out.size (yG w4 _))))));go_big_quiet_on)))
       refine wpQuiet_nil ?_
       rintro w9 ⟨uu,rfl⟩
       have hb9:=yG w4 uu
       generalize bel w4 uu=w9 at *
       have HB9:=hide (yI HB.out HB.out.size hb9);clear hb9 g0 g1
       go_wp2
       go_ret
       exact⟨yH (yW fun h=>by have:=C3.out;have:=h.table C2.out;omega).symm,HB9.out⟩
     have c2':(x.zD != 13)=true:=bneI_t c2;have C2:=hide c2;clear c2
     have g0:=xB HK.out;have g1:=xB HP.out
     refine xA (by kernel_rfl) (by kernel_rfl) ?_
     repeat(first|go_big_quiet_skip|(go_big_quiet_want;go_big_quiet_op;first|go_big_quiet_on|(apply Exists.intro;refine⟨fun _=>?_,?_⟩;(· (go_at_call 86;exact Calls.yJ (c_size _ x.zH _ (Rd.below R3.out (yI HB.out HB.out.size (yG w4 _))))));go_big_quiet_on)))
     refine wpQuiet_nil ?_
     rintro w9 ⟨uu,rfl⟩
     have hb9:=yG w4 uu
     generalize bel w4 uu=w9 at *
     have HB9:=hide (yI HB.out HB.out.size hb9);clear hb9 g0 g1
     go_wp2
     go_ret
     exact⟨yH (yX ⟨q0,by rw[HKF.out];exact HA.out,by rw[HKF.out,hB];exact Q2.out,hall.out,by rw[HKF.out];exact C1.out,fun h=>absurd h C2.out⟩).symm,HB9.out⟩
   ·have hbq:=hB
    by_cases q2:inB x.fB 1 16=true
    rotate_left
    ·have q2':inB x.fB 1 16=false:=(by simpa using q2);have Q2:=hide q2
     go_wp2_with (go_at_call 89;refine(c_within _ _ _ _).mono ?_;rintro e w' ⟨rfl,rfl⟩)
     go_ret
     exact⟨yH (yW fun h=>by have h1:=h.b;rw[HKF.out,hB] at h1;exact q2 h1).symm,HB.out⟩
    have Q2:=hide q2
    go_wp2_with (go_at_call 89;refine(c_within _ _ _ _).mono ?_;rintro e w' ⟨rfl,rfl⟩)
    go_loop [63] (fun i=> ∃ k:Nat,k≤x.zH.length∧i= .int .i64 k∧Upto x.zH (fun _ f=>inB f 0 23=true) k) (fun i=>x.zH.length - (intOf i).toNat)
    case atStart=>exact⟨0,Nat.zero_le _,rfl,Upto.zero⟩
    case round=>
     obtain⟨k,hk,rfl,hs⟩:=hrel
     have HS:=hide hs;clear hs
     by_cases hlt:k<x.zH.length
     ·have hgk:=List.getElem?_eq_getElem hlt
      obtain⟨b1,off,hA,hb1,hc0⟩:=HX3.out k x.zH[k] hgk
      subst hA
      generalize x.zH[k]=y at *
      have HG:=hide hgk;have hcell:=(HB.out.cell hb1).trans hc0;have hq1:b1<w4.heap.size:=Nat.lt_of_lt_of_le hb1 HB.out.size;clear hgk hc0
      by_cases q3:inB y 0 23=true
      ·go_wp2_with (go_at_call 89;refine(c_within _ _ _ _).mono ?_;rintro e w' ⟨rfl,rfl⟩)
       go_round
       case rel=>exact⟨k+1,by omega,by go_num,HS.out.step HG.out q3⟩
       case measure=>simp[intOf];omega
      ·have q3':inB y 0 23=false:=by simpa using q3
       go_wp2_with (go_at_call 89;refine(c_within _ _ _ _).mono ?_;rintro e w' ⟨rfl,rfl⟩)
       go_ret
       exact⟨yH (yW fun h=>q3 (h.from_ k y HG.out)).symm,HB.out⟩
     have hall:=hide (HS.out.all (by omega));clear HS
     go_wp2
     have HW:=hide (Below.refl w4.heap.size w4)
     by_cases c1:(x.zH.length:Int)=K.inputs
     rotate_left
     ·have c1':((x.zH.length:Int) == K.inputs)=false:=yP c1;have C1:=hide c1;clear c1
      have g0:=xB HK.out;have g1:=xB HP.out
      refine xA (by kernel_rfl) (by kernel_rfl) ?_
      repeat(first|go_big_quiet_skip|(go_big_quiet_want;go_big_quiet_op;first|go_big_quiet_on|(apply Exists.intro;refine⟨fun _=>?_,?_⟩;(· (go_at_call 86;exact Calls.yJ (c_size _ x.zH _ (Rd.below R3.out (yI HB.out HB.out.size (yG w4 _))))));go_big_quiet_on)))
      refine wpQuiet_nil ?_
      rintro w9 ⟨uu,rfl⟩
      have hb9:=yG w4 uu
      generalize bel w4 uu=w9 at *
      have HB9:=hide (yI HB.out HB.out.size hb9);clear hb9 g0 g1
      go_wp2
      go_ret
      exact⟨yH (yW fun h=>C1.out (by have:=h.arity;rwa [HKF.out] at this)).symm,HB9.out⟩
     have c1':((x.zH.length:Int) == K.inputs)=true:=yQ c1;have C1:=hide c1;clear c1
     skip
     by_cases c2:x.zD=13
     ·have c2':(x.zD != 13)=false:=bneI_f c2;have C2:=hide c2;clear c2
      by_cases c3:x.fA<tables
      ·have c3':decide (x.fA<tables)=true:=decide_eq_true c3;have C3:=hide c3
       have g0:=xB HK.out;have g1:=xB HP.out
       refine xA (by kernel_rfl) (by kernel_rfl) ?_
       repeat(first|go_big_quiet_skip|(go_big_quiet_want;go_big_quiet_op;first|go_big_quiet_on|(apply Exists.intro;refine⟨fun _=>?_,?_⟩;(· (go_at_call 86;exact Calls.yJ (c_size _ x.zH _ (Rd.below R3.out (yI HB.out HB.out.size (yG w4 _))))));go_big_quiet_on)))
       refine wpQuiet_nil ?_
       rintro w9 ⟨uu,rfl⟩
       have hb9:=yG w4 uu
       generalize bel w4 uu=w9 at *
       have HB9:=hide (yI HB.out HB.out.size hb9);clear hb9 g0 g1
       go_wp2
       go_ret
       exact⟨yH (yX ⟨q0,by rw[HKF.out];exact HA.out,by rw[HKF.out,hB];exact Q2.out,hall.out,by rw[HKF.out];exact C1.out,fun _=>C3.out⟩).symm,HB9.out⟩
      ·have c3':decide (x.fA<tables)=false:=decide_eq_false c3;have C3:=hide c3
       have g0:=xB HK.out;have g1:=xB HP.out
       refine xA (by kernel_rfl) (by kernel_rfl) ?_
       repeat(first|go_big_quiet_skip|(go_big_quiet_want;go_big_quiet_op;first|go_big_quiet_on|(apply Exists.intro;refine⟨fun _=>?_,?_⟩;(· (go_at_call 86;exact Calls.yJ (c_size _ x.zH _ (Rd.below R3.out (yI HB.out HB.out.size (yG w4 _))))));go_big_quiet_on)))
       refine wpQuiet_nil ?_
       rintro w9 ⟨uu,rfl⟩
       have hb9:=yG w4 uu
       generalize bel w4 uu=w9 at *
       have HB9:=hide (yI HB.out HB.out.size hb9);clear hb9 g0 g1
       go_wp2
       go_ret
       exact⟨yH (yW fun h=>by have:=C3.out;have:=h.table C2.out;omega).symm,HB9.out⟩
     have c2':(x.zD != 13)=true:=bneI_t c2;have C2:=hide c2;clear c2
     have g0:=xB HK.out;have g1:=xB HP.out
     refine xA (by kernel_rfl) (by kernel_rfl) ?_
     repeat(first|go_big_quiet_skip|(go_big_quiet_want;go_big_quiet_op;first|go_big_quiet_on|(apply Exists.intro;refine⟨fun _=>?_,?_⟩;(· (go_at_call 86;exact Calls.yJ (c_size _ x.zH _ (Rd.below R3.out (yI HB.out HB.out.size (yG w4 _))))));go_big_quiet_on)))
     refine wpQuiet_nil ?_
     rintro w9 ⟨uu,rfl⟩
     have hb9:=yG w4 uu
     generalize bel w4 uu=w9 at *
     have HB9:=hide (yI HB.out HB.out.size hb9);clear hb9 g0 g1
     go_wp2
     go_ret
     exact⟨yH (yX ⟨q0,by rw[HKF.out];exact HA.out,by rw[HKF.out,hB];exact Q2.out,hall.out,by rw[HKF.out];exact C1.out,fun h=>absurd h C2.out⟩).symm,HB9.out⟩
  have a1:decide (K.low≤K.high)=false:=decide_eq_false a0;have A0:=hide a0;clear a0
  go_wp2_with (go_at_call 89;refine(c_within _ _ _ _).mono ?_;rintro e w' ⟨rfl,rfl⟩)
  refine(c_hasA _ _ _ _ _ _ _).mono ?_;rintro e w3 ⟨rfl,hb⟩;rw[a1]
  replace HK:=hide (HK.out.below hb la);replace HP:=hide (HP.out.below hb lp);replace HB:=hide (yI HB.out HB.out.size hb);clear hb ka kp la lp hsz
  have ka:=HK.out.cell;have kp:=HP.out.cell;have hsz:=HB.out.size;have la:=HK.out.lt;have lp:=HP.out.lt
  go_wp2_with (go_at_call 89;refine(c_within _ _ _ _).mono ?_;rintro e w' ⟨rfl,rfl⟩)
  refine(c_hasA _ _ _ _ _ _ _).mono ?_;rintro e w4 ⟨rfl,hb⟩;rw[a1]
  replace HK:=hide (HK.out.below hb la);replace HP:=hide (HP.out.below hb lp);replace HB:=hide (yI HB.out HB.out.size hb);clear hb ka kp la lp hsz
  have ka:=HK.out.cell;have kp:=HP.out.cell;have hsz:=HB.out.size;have la:=HK.out.lt;have lp:=HP.out.lt
  by_cases q1:x.fA=0
  rotate_left
  ·have q1':(x.fA != 0)=true:=bneI_t q1;have Q1:=hide q1;clear q1
   go_wp2_with (go_at_call 89;refine(c_within _ _ _ _).mono ?_;rintro e w' ⟨rfl,rfl⟩)
   go_ret
   exact⟨yH (yW fun h=>by have h1:=h.a;rw[HKF.out,if_neg (by have:=A0.out;omega)] at h1;exact Q1.out h1).symm,HB.out⟩
  have q1':(x.fA != 0)=false:=bneI_f q1
  have HA:=hide (show if K.low≤K.high then inB x.fA K.low K.high=true else x.fA=0 by rw[if_neg (by have:=A0.out;omega)];exact q1);clear q1
  cases hB:K.hasB
  ·have hbq:=hB
   by_cases q2:x.fB=0
   rotate_left
   ·have q2':(x.fB != 0)=true:=bneI_t q2;have Q2:=hide q2;clear q2
    go_wp2_with (go_at_call 89;refine(c_within _ _ _ _).mono ?_;rintro e w' ⟨rfl,rfl⟩)
    go_ret
    exact⟨yH (yW fun h=>by have h1:=h.b;rw[HKF.out,hB] at h1;exact Q2.out h1).symm,HB.out⟩
   have q2':(x.fB != 0)=false:=bneI_f q2;have Q2:=hide q2;clear q2
   go_wp2_with (go_at_call 89;refine(c_within _ _ _ _).mono ?_;rintro e w' ⟨rfl,rfl⟩)
   go_loop [63] (fun i=> ∃ k:Nat,k≤x.zH.length∧i= .int .i64 k∧Upto x.zH (fun _ f=>inB f 0 23=true) k) (fun i=>x.zH.length - (intOf i).toNat)
   case atStart=>exact⟨0,Nat.zero_le _,rfl,Upto.zero⟩
   case round=>
    obtain⟨k,hk,rfl,hs⟩:=hrel
    have HS:=hide hs;clear hs
    by_cases hlt:k<x.zH.length
    ·have hgk:=List.getElem?_eq_getElem hlt
     obtain⟨b1,off,hA,hb1,hc0⟩:=HX3.out k x.zH[k] hgk
     subst hA
     generalize x.zH[k]=y at *
     have HG:=hide hgk;have hcell:=(HB.out.cell hb1).trans hc0;have hq1:b1<w4.heap.size:=Nat.lt_of_lt_of_le hb1 HB.out.size;clear hgk hc0
     by_cases q3:inB y 0 23=true
     ·go_wp2_with (go_at_call 89;refine(c_within _ _ _ _).mono ?_;rintro e w' ⟨rfl,rfl⟩)
      go_round
      case rel=>exact⟨k+1,by omega,by go_num,HS.out.step HG.out q3⟩
      case measure=>simp[intOf];omega
     ·have q3':inB y 0 23=false:=by simpa using q3
      go_wp2_with (go_at_call 89;refine(c_within _ _ _ _).mono ?_;rintro e w' ⟨rfl,rfl⟩)
      go_ret
      exact⟨yH (yW fun h=>q3 (h.from_ k y HG.out)).symm,HB.out⟩
    have hall:=hide (HS.out.all (by omega));clear HS
    go_wp2
    have HW:=hide (Below.refl w4.heap.size w4)
    by_cases c1:(x.zH.length:Int)=K.inputs
    rotate_left
    ·have c1':((x.zH.length:Int) == K.inputs)=false:=yP c1;have C1:=hide c1;clear c1
     have g0:=xB HK.out;have g1:=xB HP.out
     refine xA (by kernel_rfl) (by kernel_rfl) ?_
     repeat(first|go_big_quiet_skip|(go_big_quiet_want;go_big_quiet_op;first|go_big_quiet_on|(apply Exists.intro;refine⟨fun _=>?_,?_⟩;(· (go_at_call 86;exact Calls.yJ (c_size _ x.zH _ (Rd.below R3.out (yI HB.out HB.out.size (yG w4 _))))));go_big_quiet_on)))
     refine wpQuiet_nil ?_
     rintro w9 ⟨uu,rfl⟩
     have hb9:=yG w4 uu
     generalize bel w4 uu=w9 at *
     have HB9:=hide (yI HB.out HB.out.size hb9);clear hb9 g0 g1
     go_wp2
     go_ret
     exact⟨yH (yW fun h=>C1.out (by have:=h.arity;rwa [HKF.out] at this)).symm,HB9.out⟩
    have c1':((x.zH.length:Int) == K.inputs)=true:=yQ c1;have C1:=hide c1;clear c1
    skip
    by_cases c2:x.zD=13
    ·have c2':(x.zD != 13)=false:=bneI_f c2;have C2:=hide c2;clear c2
     by_cases c3:x.fA<tables
     ·have c3':decide (x.fA<tables)=true:=decide_eq_true c3;have C3:=hide c3
      have g0:=xB HK.out;have g1:=xB HP.out
      refine xA (by kernel_rfl) (by kernel_rfl) ?_
      repeat(first|go_big_quiet_skip|(go_big_quiet_want;go_big_quiet_op;first|go_big_quiet_on|(apply Exists.intro;refine⟨fun _=>?_,?_⟩;(· (go_at_call 86;exact Calls.yJ (c_size _ x.zH _ (Rd.below R3.out (yI HB.out HB.out.size (yG w4 _))))));go_big_quiet_on)))
      refine wpQuiet_nil ?_
      rintro w9 ⟨uu,rfl⟩
      have hb9:=yG w4 uu
      generalize bel w4 uu=w9 at *
      have HB9:=hide (yI HB.out HB.out.size hb9);clear hb9 g0 g1
      go_wp2
      go_ret
      exact⟨yH (yX ⟨q0,by rw[HKF.out];exact HA.out,by rw[HKF.out,hB];exact Q2.out,hall.out,by rw[HKF.out];exact C1.out,fun _=>C3.out⟩).symm,HB9.out⟩
     ·have c3':decide (x.fA<tables)=false:=decide_eq_false c3;have C3:=hide c3
      have g0:=xB HK.out;have g1:=xB HP.out
      refine xA (by kernel_rfl) (by kernel_rfl) ?_
      repeat(first|go_big_quiet_skip|(go_big_quiet_want;go_big_quiet_op;first|go_big_quiet_on|(apply Exists.intro;refine⟨fun _=>?_,?_⟩;(· (go_at_call 86;exact Calls.yJ (c_size _ x.zH _ (Rd.below R3.out (yI HB.out HB.out.size (yG w4 _))))));go_big_quiet_on)))
      refine wpQuiet_nil ?_
      rintro w9 ⟨uu,rfl⟩
      have hb9:=yG w4 uu
      generalize bel w4 uu=w9 at *
      have HB9:=hide (yI HB.out HB.out.size hb9);clear hb9 g0 g1
      go_wp2
      go_ret
      exact⟨yH (yW fun h=>by have:=C3.out;have:=h.table C2.out;omega).symm,HB9.out⟩
    have c2':(x.zD != 13)=true:=bneI_t c2;have C2:=hide c2;clear c2
    have g0:=xB HK.out;have g1:=xB HP.out
    refine xA (by kernel_rfl) (by kernel_rfl) ?_
    repeat(first|go_big_quiet_skip|(go_big_quiet_want;go_big_quiet_op;first|go_big_quiet_on|(apply Exists.intro;refine⟨fun _=>?_,?_⟩;(· (go_at_call 86;exact Calls.yJ (c_size _ x.zH _ (Rd.below R3.out (yI HB.out HB.out.size (yG w4 _))))));go_big_quiet_on)))
    refine wpQuiet_nil ?_
    rintro w9 ⟨uu,rfl⟩
    have hb9:=yG w4 uu
    generalize bel w4 uu=w9 at *
    have HB9:=hide (yI HB.out HB.out.size hb9);clear hb9 g0 g1
    go_wp2
    go_ret
    exact⟨yH (yX ⟨q0,by rw[HKF.out];exact HA.out,by rw[HKF.out,hB];exact Q2.out,hall.out,by rw[HKF.out];exact C1.out,fun h=>absurd h C2.out⟩).symm,HB9.out⟩
  ·have hbq:=hB
   by_cases q2:inB x.fB 1 16=true
   rotate_left
   ·have q2':inB x.fB 1 16=false:=(by simpa using q2);have Q2:=hide q2
    go_wp2_with (go_at_call 89;refine(c_within _ _ _ _).mono ?_;rintro e w' ⟨rfl,rfl⟩)
    go_ret
    exact⟨yH (yW fun h=>by have h1:=h.b;rw[HKF.out,hB] at h1;exact q2 h1).symm,HB.out⟩
   have Q2:=hide q2
   go_wp2_with (go_at_call 89;refine(c_within _ _ _ _).mono ?_;rintro e w' ⟨rfl,rfl⟩)
   go_loop [63] (fun i=> ∃ k:Nat,k≤x.zH.length∧i= .int .i64 k∧Upto x.zH (fun _ f=>inB f 0 23=true) k) (fun i=>x.zH.length - (intOf i).toNat)
   case atStart=>exact⟨0,Nat.zero_le _,rfl,Upto.zero⟩
   case round=>
    obtain⟨k,hk,rfl,hs⟩:=hrel
    have HS:=hide hs;clear hs
    by_cases hlt:k<x.zH.length
    ·have hgk:=List.getElem?_eq_getElem hlt
     obtain⟨b1,off,hA,hb1,hc0⟩:=HX3.out k x.zH[k] hgk
     subst hA
     generalize x.zH[k]=y at *
     have HG:=hide hgk;have hcell:=(HB.out.cell hb1).trans hc0;have hq1:b1<w4.heap.size:=Nat.lt_of_lt_of_le hb1 HB.out.size;clear hgk hc0
     by_cases q3:inB y 0 23=true
     ·go_wp2_with (go_at_call 89;refine(c_within _ _ _ _).mono ?_;rintro e w' ⟨rfl,rfl⟩)
      go_round
      case rel=>exact⟨k+1,by omega,by go_num,HS.out.step HG.out q3⟩
      case measure=>simp[intOf];omega
     ·have q3':inB y 0 23=false:=by simpa using q3
      go_wp2_with (go_at_call 89;refine(c_within _ _ _ _).mono ?_;rintro e w' ⟨rfl,rfl⟩)
      go_ret
      exact⟨yH (yW fun h=>q3 (h.from_ k y HG.out)).symm,HB.out⟩
    have hall:=hide (HS.out.all (by omega));clear HS
    go_wp2
    have HW:=hide (Below.refl w4.heap.size w4)
    by_cases c1:(x.zH.length:Int)=K.inputs
    rotate_left
    ·have c1':((x.zH.length:Int) == K.inputs)=false:=yP c1;have C1:=hide c1;clear c1
     have g0:=xB HK.out;have g1:=xB HP.out
     refine xA (by kernel_rfl) (by kernel_rfl) ?_
     repeat(first|go_big_quiet_skip|(go_big_quiet_want;go_big_quiet_op;first|go_big_quiet_on|(apply Exists.intro;refine⟨fun _=>?_,?_⟩;(· (go_at_call 86;exact Calls.yJ (c_size _ x.zH _ (Rd.below R3.out (yI HB.out HB.out.size (yG w4 _))))));go_big_quiet_on)))
     refine wpQuiet_nil ?_
     rintro w9 ⟨uu,rfl⟩
     have hb9:=yG w4 uu
     generalize bel w4 uu=w9 at *
     have HB9:=hide (yI HB.out HB.out.size hb9);clear hb9 g0 g1
     go_wp2
     go_ret
     exact⟨yH (yW fun h=>C1.out (by have:=h.arity;rwa [HKF.out] at this)).symm,HB9.out⟩
    have c1':((x.zH.length:Int) == K.inputs)=true:=yQ c1;have C1:=hide c1;clear c1
    skip
    by_cases c2:x.zD=13
    ·have c2':(x.zD != 13)=false:=bneI_f c2;have C2:=hide c2;clear c2
     by_cases c3:x.fA<tables
     ·have c3':decide (x.fA<tables)=true:=decide_eq_true c3;have C3:=hide c3
      have g0:=xB HK.out;have g1:=xB HP.out
      refine xA (by kernel_rfl) (by kernel_rfl) ?_
      repeat(first|go_big_quiet_skip|(go_big_quiet_want;go_big_quiet_op;first|go_big_quiet_on|(apply Exists.intro;refine⟨fun _=>?_,?_⟩;(· (go_at_call 86;exact Calls.yJ (c_size _ x.zH _ (Rd.below R3.out (yI HB.out HB.out.size (yG w4 _))))));go_big_quiet_on)))
      refine wpQuiet_nil ?_
      rintro w9 ⟨uu,rfl⟩
      have hb9:=yG w4 uu
      generalize bel w4 uu=w9 at *
      have HB9:=hide (yI HB.out HB.out.size hb9);clear hb9 g0 g1
      go_wp2
      go_ret
      exact⟨yH (yX ⟨q0,by rw[HKF.out];exact HA.out,by rw[HKF.out,hB];exact Q2.out,hall.out,by rw[HKF.out];exact C1.out,fun _=>C3.out⟩).symm,HB9.out⟩
     ·have c3':decide (x.fA<tables)=false:=decide_eq_false c3;have C3:=hide c3
      have g0:=xB HK.out;have g1:=xB HP.out
      refine xA (by kernel_rfl) (by kernel_rfl) ?_
      repeat(first|go_big_quiet_skip|(go_big_quiet_want;go_big_quiet_op;first|go_big_quiet_on|(apply Exists.intro;refine⟨fun _=>?_,?_⟩;(· (go_at_call 86;exact Calls.yJ (c_size _ x.zH _ (Rd.below R3.out (yI HB.out HB.out.size (yG w4 _))))));go_big_quiet_on)))
      refine wpQuiet_nil ?_
      rintro w9 ⟨uu,rfl⟩
      have hb9:=yG w4 uu
      generalize bel w4 uu=w9 at *
      have HB9:=hide (yI HB.out HB.out.size hb9);clear hb9 g0 g1
      go_wp2
      go_ret
      exact⟨yH (yW fun h=>by have:=C3.out;have:=h.table C2.out;omega).symm,HB9.out⟩
    have c2':(x.zD != 13)=true:=bneI_t c2;have C2:=hide c2;clear c2
    have g0:=xB HK.out;have g1:=xB HP.out
    refine xA (by kernel_rfl) (by kernel_rfl) ?_
    repeat(first|go_big_quiet_skip|(go_big_quiet_want;go_big_quiet_op;first|go_big_quiet_on|(apply Exists.intro;refine⟨fun _=>?_,?_⟩;(· (go_at_call 86;exact Calls.yJ (c_size _ x.zH _ (Rd.below R3.out (yI HB.out HB.out.size (yG w4 _))))));go_big_quiet_on)))
    refine wpQuiet_nil ?_
    rintro w9 ⟨uu,rfl⟩
    have hb9:=yG w4 uu
    generalize bel w4 uu=w9 at *
    have HB9:=hide (yI HB.out HB.out.size hb9);clear hb9 g0 g1
    go_wp2
    go_ret
    exact⟨yH (yX ⟨q0,by rw[HKF.out];exact HA.out,by rw[HKF.out,hB];exact Q2.out,hall.out,by rw[HKF.out];exact C1.out,fun h=>absurd h C2.out⟩).symm,HB9.out⟩
 go_region_with (go_at_call 279;refine(c_kinds _).mono ?_;rintro e w' ⟨rfl,rfl⟩)
 all_goals first|(exact REST _ _ _ (((HK0.out.alloc _).alloc _).drewN 1) (Bk.drewN (by have:=Bk.born ((w.alloc (.cells #[.int .i64 x.zD,.int .i64 x.fA,.int .i64 x.fB,(.slice va3 x.zH.length vc3)] 167)).alloc (.cells kndCells 306)) 306 #[.string nm,.int .i64 K.inputs,.int .i64 K.low,.int .i64 K.high,.bool K.linear,.bool K.hasB];simpa using this) 1) (((HB0.out.alloc (by first|(simp;done)|(simp;omega)|omega) _).alloc (by first|(simp;done)|(simp;omega)|omega) _).drew))|(exact REST _ _ _ (((HK0.out.alloc _).alloc _).drewN 1) (Bk.drewN (by have:=(Bk.born (w.alloc (.cells #[.int .i64 x.zD,.int .i64 x.fA,.int .i64 x.fB,(.slice va3 x.zH.length vc3)] 167)) 306 #[.string nm,.int .i64 K.inputs,.int .i64 K.low,.int .i64 K.high,.bool K.linear,.bool K.hasB]).alloc (.cells kndCells 306);simpa using this) 1) (((HB0.out.alloc (by first|(simp;done)|(simp;omega)|omega) _).alloc (by first|(simp;done)|(simp;omega)|omega) _).drew))
end Go.Proofs.YtoibekfhepnedaaGreat
