/- Contracts: valid sessions, by the reference. -/
import Derived.Test.YtoibekfhepnedaaGreatQArExactSoundCache
set_option linter.unusedVariables false
set_option linter.unusedSimpArgs false
set_option maxHeartbeats 2000000
set_option maxRecDepth 20000
namespace Go.Proofs.YtoibekfhepnedaaGreat
open Go.RowKit
theorem noPatch_iff {x:GPatch} :x=noPatch↔x.zK=0∧x.zM.length=0∧x.zB.length=0∧x.zL.length=0:=by
 obtain⟨a,b,c,d⟩:=x
 simp[noPatch]
theorem c_l27None (x:GPatch) (b o:Nat) (w:World) (h:T.at w x.fs b o):Calls Tryz.prog 125 #[.pointer (some ⟨b,o,none⟩)] w fun e w'=>e= .returned (.bool (tf (x=noPatch)))∧Below w.heap.size w w':=by
 have HAT:=hide h
 obtain⟨hlt0,cs,hr,hc⟩:=h
 obtain⟨v1,v2,v3,rfl,h1,h2,h3⟩:=GPatch.yN hr
 clear hr
 have R1:=hide h1;obtain⟨va1,vc1,rfl,vl1,vm1,vx1⟩:=T.yM h1
 have HX1:=hide vx1;clear vx1 h1
 have R2:=hide h2;obtain⟨va2,vc2,rfl,vl2,vm2,vx2⟩:=T.yM h2
 have HX2:=hide vx2;clear vx2 h2
 have h3i:=T.yR.1 h3;obtain⟨va3,vc3,rfl,vl3,vm3,vx3⟩:=h3i.open_
 have R3:=hide h3i;have HX3:=hide vx3;clear vx3 h3 h3i
 have HL:=hide hlt0;have HCC:=hide hc;have HB0:=hide (Below.refl w.heap.size w);clear hlt0 hc
 have p0:w.cell? ⟨b,o,none⟩=some (.int .i64 x.zK):=(HB0.out.cell HL.out).trans (HCC.out 0 _ rfl)
 have p1:w.cell? ⟨b,o+1,none⟩=some (.slice va1 x.zM.length vc1):=(HB0.out.cell HL.out).trans (HCC.out 1 _ rfl)
 have p2:w.cell? ⟨b,o+2,none⟩=some (.slice va2 x.zB.length vc2):=(HB0.out.cell HL.out).trans (HCC.out 2 _ rfl)
 have p3:w.cell? ⟨b,o+3,none⟩=some (.slice va3 x.zL.length vc3):=(HB0.out.cell HL.out).trans (HCC.out 3 _ rfl)
 have lb:b<w.heap.size:=Nat.lt_of_lt_of_le HL.out HB0.out.size
 go_enter Tryz.func125,Tryz.ntmps125
 by_cases q0:x.zK=0
 rotate_left
 ·have b0:(x.zK == 0)=false:=yP (by omega);have Q0:=hide q0;clear q0
  go_wp2
  go_ret
  exact⟨yH (yW fun h=>Q0.out (noPatch_iff.1 h).1).symm,HB0.out⟩
 have b0:(x.zK == 0)=true:=yQ (by omega);have Q0:=hide q0;clear q0
 by_cases q1:x.zM.length=0
 rotate_left
 ·have b1:((x.zM.length:Int) == 0)=false:=yP (by omega);have Q1:=hide q1;clear q1
  go_wp2
  go_ret
  exact⟨yH (yW fun h=>Q1.out (noPatch_iff.1 h).2.1).symm,HB0.out⟩
 have b1:((x.zM.length:Int) == 0)=true:=yQ (by omega);have Q1:=hide q1;clear q1
 by_cases q2:x.zB.length=0
 rotate_left
 ·have b2:((x.zB.length:Int) == 0)=false:=yP (by omega);have Q2:=hide q2;clear q2
  go_wp2
  go_ret
  exact⟨yH (yW fun h=>Q2.out (noPatch_iff.1 h).2.2.1).symm,HB0.out⟩
 have b2:((x.zB.length:Int) == 0)=true:=yQ (by omega);have Q2:=hide q2;clear q2
 by_cases q3:x.zL.length=0
 rotate_left
 ·have b3:((x.zL.length:Int) == 0)=false:=yP (by omega);have Q3:=hide q3;clear q3
  go_wp2
  go_ret
  exact⟨yH (yW fun h=>Q3.out (noPatch_iff.1 h).2.2.2).symm,HB0.out⟩
 have b3:((x.zL.length:Int) == 0)=true:=yQ (by omega);have Q3:=hide q3;clear q3
 go_wp2
 go_ret
 exact⟨yH (yX (noPatch_iff.2 ⟨Q0.out,Q1.out,Q2.out,Q3.out⟩)).symm,HB0.out⟩
theorem c_l27Ok (x:GSession) (b o:Nat) (w:World) (hs:x.small) (h:T.at w x.fs b o):Calls Tryz.prog 54 #[.pointer (some ⟨b,o,none⟩)] w fun e w'=>e= .returned (.bool (tf (SessionOk x)))∧Below w.heap.size w w':=by
 have HAT:=hide h
 obtain⟨hlt0,cs,hr,hc⟩:=h
 obtain⟨v1,v2,v3,v4,v5,rfl,h1,h2,h3,h4,h5⟩:=GSession.yN hr
 clear hr
 have R1:=hide h1;obtain⟨va1,vc1,rfl,vl1,vm1,vx1⟩:=T.yM h1
 have HX1:=hide vx1;clear vx1 h1
 have R2:=hide h2;obtain⟨va2,vc2,rfl,vl2,vm2,vx2⟩:=T.yM h2
 have HX2:=hide vx2;clear vx2 h2
 have h3i:=T.yR.1 h3;obtain⟨va3,vc3,rfl,vl3,vm3,vx3⟩:=h3i.open_
 have R3:=hide h3i;have HX3:=hide vx3;clear vx3 h3 h3i
 have R4:=hide h4;obtain⟨va4,vc4,rfl,vl4,vm4,vx4⟩:=T.yM h4
 have HX4:=hide vx4;clear vx4 h4
 have R5:=hide h5;obtain⟨va5,vc5,rfl,vl5,vm5,vx5⟩:=T.yM h5
 have HX5:=hide vx5;clear vx5 h5
 have HL:=hide hlt0;have HCC:=hide hc;have HB0:=hide (Below.refl w.heap.size w);clear hlt0 hc
 have hn5:x.zF.zC.length≤1048576:=hs.2.2.2.2.1
 have HEF:=hide hs.2.2.2.1.2;clear hs
 have HATM:=hide (show T.at w x.zF.fs b (o+5) from T.at_sub [.int .i64 x.zG,(.slice va1 x.zN.length vc1),(.slice va2 x.zO.length vc2),(.slice va3 x.zS.length vc3),(.slice va4 x.zP.length vc4)] [(.slice va5 x.zF.zC.length vc5)] [] HL.out HCC.out (GMixer.rd_mk R5.out))
 have p0:w.cell? ⟨b,o,none⟩=some (.int .i64 x.zG):=(HB0.out.cell HL.out).trans (HCC.out 0 _ rfl)
 have p1:w.cell? ⟨b,o+1,none⟩=some (.slice va1 x.zN.length vc1):=(HB0.out.cell HL.out).trans (HCC.out 1 _ rfl)
 have p2:w.cell? ⟨b,o+2,none⟩=some (.slice va2 x.zO.length vc2):=(HB0.out.cell HL.out).trans (HCC.out 2 _ rfl)
 have p3:w.cell? ⟨b,o+3,none⟩=some (.slice va3 x.zS.length vc3):=(HB0.out.cell HL.out).trans (HCC.out 3 _ rfl)
 have p4:w.cell? ⟨b,o+4,none⟩=some (.slice va4 x.zP.length vc4):=(HB0.out.cell HL.out).trans (HCC.out 4 _ rfl)
 have p5:w.cell? ⟨b,o+5,none⟩=some (.slice va5 x.zF.zC.length vc5):=(HB0.out.cell HL.out).trans (HCC.out 5 _ rfl)
 have lb:b<w.heap.size:=Nat.lt_of_lt_of_le HL.out HB0.out.size
 go_enter Tryz.func54,Tryz.ntmps54
 go_wp2
 by_cases q1:inB x.zG 0 1000=true
 rotate_left
 ·have q1':inB x.zG 0 1000=false:=(by simpa using q1)
  have g0:=yF p0
  have g1:=yF p1
  have g2:=yF p2
  have g3:=yF p3
  have g4:=yF p4
  have g5:=yF p5
  refine xA (by kernel_rfl) (by kernel_rfl) ?_
  repeat(first|go_big_quiet_skip|(go_big_quiet_want;go_big_quiet_op;first|go_big_quiet_on|(apply Exists.intro;refine⟨fun _=>?_,?_⟩;(· (first|(go_at_call 87;exact Calls.yJ ((c_l00In _ _ _ _).mono (fun e w' h=>by(first|rw[q1'] at h|skip);exact h)))|(go_at_call 122;exact Calls.yK ((c_l26Ok x.zF _ _ _ hn5 (T.at_below HATM.out (yG w _))).mono (fun e w' h=>by(first|rw[a4] at h|skip);exact h)))));go_big_quiet_on)))
  refine wpQuiet_nil ?_
  rintro w9 ⟨uu,rfl⟩
  have hb9:=yG w uu
  generalize bel w uu=w9 at *
  have HB9:=hide (yI HB0.out HB0.out.size hb9);clear g0 g1 g2 g3 g4 g5
  go_wp2
  go_ret
  exact⟨yH (yW fun h=>q1 h.length).symm,HB9.out⟩
 have q1':=q1
 by_cases q2:x.zN.length≤6
 rotate_left
 ·have d2:decide ((6:Int)<(x.zN.length:Int))=true:=decide_eq_true (by omega)
  have g0:=yF p0
  have g1:=yF p1
  have g2:=yF p2
  have g3:=yF p3
  have g4:=yF p4
  have g5:=yF p5
  refine xA (by kernel_rfl) (by kernel_rfl) ?_
  repeat(first|go_big_quiet_skip|(go_big_quiet_want;go_big_quiet_op;first|go_big_quiet_on|(apply Exists.intro;refine⟨fun _=>?_,?_⟩;(· (first|(go_at_call 87;exact Calls.yJ ((c_l00In _ _ _ _).mono (fun e w' h=>by(first|rw[q1'] at h|skip);exact h)))|(go_at_call 122;exact Calls.yK ((c_l26Ok x.zF _ _ _ hn5 (T.at_below HATM.out (yG w _))).mono (fun e w' h=>by(first|rw[a4] at h|skip);exact h)))));go_big_quiet_on)))
  refine wpQuiet_nil ?_
  rintro w9 ⟨uu,rfl⟩
  have hb9:=yG w uu
  generalize bel w uu=w9 at *
  have HB9:=hide (yI HB0.out HB0.out.size hb9);clear g0 g1 g2 g3 g4 g5
  go_wp2
  go_ret
  exact⟨yH (yW fun h=>q2 h.sources.few).symm,HB9.out⟩
 have Q2:=hide q2;have d2:decide ((6:Int)<(x.zN.length:Int))=false:=decide_eq_false (by omega)
 by_cases q3:x.zO.length≤6
 rotate_left
 ·have d3:decide ((6:Int)<(x.zO.length:Int))=true:=decide_eq_true (by omega)
  have g0:=yF p0
  have g1:=yF p1
  have g2:=yF p2
  have g3:=yF p3
  have g4:=yF p4
  have g5:=yF p5
  refine xA (by kernel_rfl) (by kernel_rfl) ?_
  repeat(first|go_big_quiet_skip|(go_big_quiet_want;go_big_quiet_op;first|go_big_quiet_on|(apply Exists.intro;refine⟨fun _=>?_,?_⟩;(· (first|(go_at_call 87;exact Calls.yJ ((c_l00In _ _ _ _).mono (fun e w' h=>by(first|rw[q1'] at h|skip);exact h)))|(go_at_call 122;exact Calls.yK ((c_l26Ok x.zF _ _ _ hn5 (T.at_below HATM.out (yG w _))).mono (fun e w' h=>by(first|rw[a4] at h|skip);exact h)))));go_big_quiet_on)))
  refine wpQuiet_nil ?_
  rintro w9 ⟨uu,rfl⟩
  have hb9:=yG w uu
  generalize bel w uu=w9 at *
  have HB9:=hide (yI HB0.out HB0.out.size hb9);clear g0 g1 g2 g3 g4 g5
  go_wp2
  go_ret
  exact⟨yH (yW fun h=>q3 h.few).symm,HB9.out⟩
 have Q3:=hide q3;have d3:decide ((6:Int)<(x.zO.length:Int))=false:=decide_eq_false (by omega)
 by_cases q4:MixerOk x.zF
 rotate_left
 ·have a4:=yW q4;have Q4:=hide q4;clear q4
  have g0:=yF p0
  have g1:=yF p1
  have g2:=yF p2
  have g3:=yF p3
  have g4:=yF p4
  have g5:=yF p5
  refine xA (by kernel_rfl) (by kernel_rfl) ?_
  repeat(first|go_big_quiet_skip|(go_big_quiet_want;go_big_quiet_op;first|go_big_quiet_on|(apply Exists.intro;refine⟨fun _=>?_,?_⟩;(· (first|(go_at_call 87;exact Calls.yJ ((c_l00In _ _ _ _).mono (fun e w' h=>by(first|rw[q1'] at h|skip);exact h)))|(go_at_call 122;exact Calls.yK ((c_l26Ok x.zF _ _ _ hn5 (T.at_below HATM.out (yG w _))).mono (fun e w' h=>by(first|rw[a4] at h|skip);exact h)))));go_big_quiet_on)))
  refine wpQuiet_nil ?_
  rintro w9 ⟨uu,rfl⟩
  have hb9:=yG w uu
  generalize bel w uu=w9 at *
  have HB9:=hide (yI HB0.out HB0.out.size hb9);clear g0 g1 g2 g3 g4 g5
  go_wp2
  go_ret
  exact⟨yH (yW fun h=>Q4.out h.mixer).symm,HB9.out⟩
 have a4:=yX q4;have Q4:=hide q4;clear q4
 by_cases q5:x.zS.length=x.zO.length
 rotate_left
 ·have b5:((x.zS.length:Int) != (x.zO.length:Int))=true:=bneI_t (by omega);have Q5:=hide q5;clear q5
  have g0:=yF p0
  have g1:=yF p1
  have g2:=yF p2
  have g3:=yF p3
  have g4:=yF p4
  have g5:=yF p5
  refine xA (by kernel_rfl) (by kernel_rfl) ?_
  repeat(first|go_big_quiet_skip|(go_big_quiet_want;go_big_quiet_op;first|go_big_quiet_on|(apply Exists.intro;refine⟨fun _=>?_,?_⟩;(· (first|(go_at_call 87;exact Calls.yJ ((c_l00In _ _ _ _).mono (fun e w' h=>by(first|rw[q1'] at h|skip);exact h)))|(go_at_call 122;exact Calls.yK ((c_l26Ok x.zF _ _ _ hn5 (T.at_below HATM.out (yG w _))).mono (fun e w' h=>by(first|rw[a4] at h|skip);exact h)))));go_big_quiet_on)))
  refine wpQuiet_nil ?_
  rintro w9 ⟨uu,rfl⟩
  have hb9:=yG w uu
  generalize bel w uu=w9 at *
  have HB9:=hide (yI HB0.out HB0.out.size hb9);clear g0 g1 g2 g3 g4 g5
  go_wp2
  go_ret
  exact⟨yH (yW fun h=>Q5.out h.feed).symm,HB9.out⟩
 have b5:((x.zS.length:Int) != (x.zO.length:Int))=false:=bneI_f (by omega);have Q5:=hide q5;clear q5
 by_cases q7:x.zP.length=x.zF.zC.length
 rotate_left
 ·have b7:((x.zP.length:Int) != (x.zF.zC.length:Int))=true:=bneI_t (by omega);have Q7:=hide q7;clear q7
  have g0:=yF p0
  have g1:=yF p1
  have g2:=yF p2
  have g3:=yF p3
  have g4:=yF p4
  have g5:=yF p5
  refine xA (by kernel_rfl) (by kernel_rfl) ?_
  repeat(first|go_big_quiet_skip|(go_big_quiet_want;go_big_quiet_op;first|go_big_quiet_on|(apply Exists.intro;refine⟨fun _=>?_,?_⟩;(· (first|(go_at_call 87;exact Calls.yJ ((c_l00In _ _ _ _).mono (fun e w' h=>by(first|rw[q1'] at h|skip);exact h)))|(go_at_call 122;exact Calls.yK ((c_l26Ok x.zF _ _ _ hn5 (T.at_below HATM.out (yG w _))).mono (fun e w' h=>by(first|rw[a4] at h|skip);exact h)))));go_big_quiet_on)))
  refine wpQuiet_nil ?_
  rintro w9 ⟨uu,rfl⟩
  have hb9:=yG w uu
  generalize bel w uu=w9 at *
  have HB9:=hide (yI HB0.out HB0.out.size hb9);clear g0 g1 g2 g3 g4 g5
  go_wp2
  go_ret
  exact⟨yH (yW fun h=>Q7.out h.effect).symm,HB9.out⟩
 have b7:((x.zP.length:Int) != (x.zF.zC.length:Int))=false:=bneI_f (by omega);have Q7:=hide q7;clear q7
 have g0:=yF p0
 have g1:=yF p1
 have g2:=yF p2
 have g3:=yF p3
 have g4:=yF p4
 have g5:=yF p5
 refine xA (by kernel_rfl) (by kernel_rfl) ?_
 repeat(first|go_big_quiet_skip|(go_big_quiet_want;go_big_quiet_op;first|go_big_quiet_on|(apply Exists.intro;refine⟨fun _=>?_,?_⟩;(· (first|(go_at_call 87;exact Calls.yJ ((c_l00In _ _ _ _).mono (fun e w' h=>by(first|rw[q1'] at h|skip);exact h)))|(go_at_call 122;exact Calls.yK ((c_l26Ok x.zF _ _ _ hn5 (T.at_below HATM.out (yG w _))).mono (fun e w' h=>by(first|rw[a4] at h|skip);exact h)))));go_big_quiet_on)))
 refine wpQuiet_nil ?_
 rintro w9 ⟨uu,rfl⟩
 have hb9:=yG w uu
 generalize bel w uu=w9 at *
 have HB9:=hide (yI HB0.out HB0.out.size hb9);clear g0 g1 g2 g3 g4 g5
 clear hb9 p0 p1 p2 p3 p4 p5 lb a4 b5 b7 d2 d3
 have p0:w9.cell? ⟨b,o,none⟩=some (.int .i64 x.zG):=(HB9.out.cell HL.out).trans (HCC.out 0 _ rfl)
 have p1:w9.cell? ⟨b,o+1,none⟩=some (.slice va1 x.zN.length vc1):=(HB9.out.cell HL.out).trans (HCC.out 1 _ rfl)
 have p2:w9.cell? ⟨b,o+2,none⟩=some (.slice va2 x.zO.length vc2):=(HB9.out.cell HL.out).trans (HCC.out 2 _ rfl)
 have p3:w9.cell? ⟨b,o+3,none⟩=some (.slice va3 x.zS.length vc3):=(HB9.out.cell HL.out).trans (HCC.out 3 _ rfl)
 have p4:w9.cell? ⟨b,o+4,none⟩=some (.slice va4 x.zP.length vc4):=(HB9.out.cell HL.out).trans (HCC.out 4 _ rfl)
 have p5:w9.cell? ⟨b,o+5,none⟩=some (.slice va5 x.zF.zC.length vc5):=(HB9.out.cell HL.out).trans (HCC.out 5 _ rfl)
 have lb:b<w9.heap.size:=Nat.lt_of_lt_of_le HL.out HB9.out.size
 go_wp2
 clear p0 p1 p2 p3 p4 p5 lb
 go_loopw [3] (fun i wr=> ∃ k:Nat,k≤x.zN.length∧i= .int .i64 k∧Upto x.zN (fun _ l=>sigB l=true) k∧Below w9.heap.size w9 wr) (fun i _=>x.zN.length - (intOf i).toNat)
 case atStart=>exact⟨0,Nat.zero_le _,rfl,Upto.zero,Below.refl _ _⟩
 case round=>
  obtain⟨k,hk,rfl,hs,hbw⟩:=hrel
  have HS:=hide hs;have HW:=hide hbw;have HB:=hide (yI HB9.out HB9.out.size hbw);clear hs hbw
  have p0:wr.cell? ⟨b,o,none⟩=some (.int .i64 x.zG):=(HB.out.cell HL.out).trans (HCC.out 0 _ rfl)
  have p1:wr.cell? ⟨b,o+1,none⟩=some (.slice va1 x.zN.length vc1):=(HB.out.cell HL.out).trans (HCC.out 1 _ rfl)
  have p2:wr.cell? ⟨b,o+2,none⟩=some (.slice va2 x.zO.length vc2):=(HB.out.cell HL.out).trans (HCC.out 2 _ rfl)
  have p3:wr.cell? ⟨b,o+3,none⟩=some (.slice va3 x.zS.length vc3):=(HB.out.cell HL.out).trans (HCC.out 3 _ rfl)
  have p4:wr.cell? ⟨b,o+4,none⟩=some (.slice va4 x.zP.length vc4):=(HB.out.cell HL.out).trans (HCC.out 4 _ rfl)
  have p5:wr.cell? ⟨b,o+5,none⟩=some (.slice va5 x.zF.zC.length vc5):=(HB.out.cell HL.out).trans (HCC.out 5 _ rfl)
  have lb:b<wr.heap.size:=Nat.lt_of_lt_of_le HL.out HB.out.size
  by_cases hlt:k<x.zN.length
  rotate_left
  ·have hall1:=hide (HS.out.all (by omega));clear HS
   generalize wr=w2 at *
   have HB2:=HB;clear HB
   go_wp2
   clear p0 p1 p2 p3 p4 p5 lb
   go_loopw [4] (fun i wr=> ∃ k:Nat,k≤x.zO.length∧i= .int .i64 k∧Upto x.zO (fun i t=>(TrackOk t∧Each t.zQ fun _ c=>c.zT<(x.zN.length:Int))∧ ∀ f,x.zS[i]?=some f→inB f 0 ((x.zF.zC.length:Int) - 1)=true) k∧Below w2.heap.size w2 wr) (fun i _=>x.zO.length - (intOf i).toNat)
   case atStart=>exact⟨0,Nat.zero_le _,rfl,Upto.zero,Below.refl _ _⟩
   case round=>
    obtain⟨k,hk,rfl,hs,hbw⟩:=hrel
    have HS:=hide hs;have HW:=hide hbw;have HB:=hide (yI HB2.out HB2.out.size hbw);clear hs hbw
    have p0:wr.cell? ⟨b,o,none⟩=some (.int .i64 x.zG):=(HB.out.cell HL.out).trans (HCC.out 0 _ rfl)
    have p1:wr.cell? ⟨b,o+1,none⟩=some (.slice va1 x.zN.length vc1):=(HB.out.cell HL.out).trans (HCC.out 1 _ rfl)
    have p2:wr.cell? ⟨b,o+2,none⟩=some (.slice va2 x.zO.length vc2):=(HB.out.cell HL.out).trans (HCC.out 2 _ rfl)
    have p3:wr.cell? ⟨b,o+3,none⟩=some (.slice va3 x.zS.length vc3):=(HB.out.cell HL.out).trans (HCC.out 3 _ rfl)
    have p4:wr.cell? ⟨b,o+4,none⟩=some (.slice va4 x.zP.length vc4):=(HB.out.cell HL.out).trans (HCC.out 4 _ rfl)
    have p5:wr.cell? ⟨b,o+5,none⟩=some (.slice va5 x.zF.zC.length vc5):=(HB.out.cell HL.out).trans (HCC.out 5 _ rfl)
    have lb:b<wr.heap.size:=Nat.lt_of_lt_of_le HL.out HB.out.size
    by_cases hlt:k<x.zO.length
    rotate_left
    ·have hall2:=hide (HS.out.all (by omega));clear HS
     generalize wr=w3 at *
     have HB3:=HB;clear HB
     go_wp2
     clear p0 p1 p2 p3 p4 p5 lb
     go_loopw [5] (fun i wr=> ∃ k:Nat,k≤x.zP.length∧i= .int .i64 k∧Upto x.zP (fun _ p=>EffectOk p) k∧Below w3.heap.size w3 wr) (fun i _=>x.zP.length - (intOf i).toNat)
     case atStart=>exact⟨0,Nat.zero_le _,rfl,Upto.zero,Below.refl _ _⟩
     case round=>
      obtain⟨k,hk,rfl,hs,hbw⟩:=hrel
      have HS:=hide hs;have HW:=hide hbw;have HB:=hide (yI HB3.out HB3.out.size hbw);clear hs hbw
      have p0:wr.cell? ⟨b,o,none⟩=some (.int .i64 x.zG):=(HB.out.cell HL.out).trans (HCC.out 0 _ rfl)
      have p1:wr.cell? ⟨b,o+1,none⟩=some (.slice va1 x.zN.length vc1):=(HB.out.cell HL.out).trans (HCC.out 1 _ rfl)
      have p2:wr.cell? ⟨b,o+2,none⟩=some (.slice va2 x.zO.length vc2):=(HB.out.cell HL.out).trans (HCC.out 2 _ rfl)
      have p3:wr.cell? ⟨b,o+3,none⟩=some (.slice va3 x.zS.length vc3):=(HB.out.cell HL.out).trans (HCC.out 3 _ rfl)
      have p4:wr.cell? ⟨b,o+4,none⟩=some (.slice va4 x.zP.length vc4):=(HB.out.cell HL.out).trans (HCC.out 4 _ rfl)
      have p5:wr.cell? ⟨b,o+5,none⟩=some (.slice va5 x.zF.zC.length vc5):=(HB.out.cell HL.out).trans (HCC.out 5 _ rfl)
      have lb:b<wr.heap.size:=Nat.lt_of_lt_of_le HL.out HB.out.size
      by_cases hlt:k<x.zP.length
      rotate_left
      ·have hall3:=hide (HS.out.all (by omega));clear HS
       go_wp2
       go_ret
       exact⟨yH (yX ⟨q1,⟨hall1.out,Q2.out⟩,Q3.out,Q4.out,Q5.out,fun i f hf=>by
      have hi:=(List.getElem?_eq_some_iff.1 hf).1
      exact yZ.1 ((hall2.out i _ (List.getElem?_eq_getElem (by have:=Q5.out;omega))).2 f hf),Q7.out,fun i t ht=>(hall2.out i t ht).1,hall3.out⟩).symm,HB.out⟩
      have hgk:=List.getElem?_eq_getElem hlt
      obtain⟨b1,off,csy,hA,hb1,hcs,hcell⟩:=HX4.out k x.zP[k] hgk
      subst hA
      generalize x.zP[k]=y at *
      have HG:=hide hgk;clear hgk
      have HAy:=hide (T.at_elem (o:=off+k * 4) hb1 (show T.rds w y.fs csy by simpa only[GPatch.t,T.rd] using hcs) hcell (by omega));clear hcs hcell
      have n1:((k:Int)<(x.zP.length:Int)):=by omega
      have hq1:b1<wr.heap.size:=Nat.lt_of_lt_of_le hb1 HB.out.size
      have hny:=(HEF.out y (List.mem_of_getElem? HG.out))
      have hny1:y.zB.length≤1048576:=hny.2.1.1
      have hny2:y.zM.length≤1048576:=hny.1.1
      clear hny
      obtain⟨lty,csy',hry,hcy⟩:=HAy.out
      obtain⟨u1,u2,u3,rfl,hu1,hu2,hu3⟩:=GPatch.yN hry
      have Ru1:=hide hu1;obtain⟨ua1,uc1,rfl,ul1,um1,ux1⟩:=T.yM hu1;have HXu1:=hide ux1;clear ux1 hu1
      have Ru2:=hide hu2;obtain⟨ua2,uc2,rfl,ul2,um2,ux2⟩:=T.yM hu2;have HXu2:=hide ux2;clear ux2 hu2
      have Ru3:=hide (T.yR.1 hu3);obtain⟨ua3,uc3,rfl,ul3,um3,ux3⟩:=Ru3.out.open_;have HXu3:=hide ux3;clear ux3 hu3
      have HCy:=hide hcy;clear hry hcy
      have cy0:wr.cell? ⟨b1,off+k * 4,none⟩=some (.int .i64 y.zK):=(HB.out.cell lty).trans (HCy.out 0 _ rfl)
      have cy1:wr.cell? ⟨b1,off+k * 4+1,none⟩=some (.slice ua1 y.zM.length uc1):=(HB.out.cell lty).trans (HCy.out 1 _ rfl)
      have cy2:wr.cell? ⟨b1,off+k * 4+2,none⟩=some (.slice ua2 y.zB.length uc2):=(HB.out.cell lty).trans (HCy.out 2 _ rfl)
      have cy3:wr.cell? ⟨b1,off+k * 4+3,none⟩=some (.slice ua3 y.zL.length uc3):=(HB.out.cell lty).trans (HCy.out 3 _ rfl)
      go_wp2_with fail
      refine(c_l27None y _ _ _ (T.at_below HAy.out HB.out)).mono ?_;rintro e w4 ⟨rfl,hb4⟩
      have HB4:=hide (yI HB.out HB.out.size hb4);have HW4:=hide (yI HW.out HW.out.size hb4);clear hb4 cy0 cy1 cy2 cy3
      clear p0 p1 p2 p3 p4 p5 lb
      have p0:w4.cell? ⟨b,o,none⟩=some (.int .i64 x.zG):=(HB4.out.cell HL.out).trans (HCC.out 0 _ rfl)
      have p1:w4.cell? ⟨b,o+1,none⟩=some (.slice va1 x.zN.length vc1):=(HB4.out.cell HL.out).trans (HCC.out 1 _ rfl)
      have p2:w4.cell? ⟨b,o+2,none⟩=some (.slice va2 x.zO.length vc2):=(HB4.out.cell HL.out).trans (HCC.out 2 _ rfl)
      have p3:w4.cell? ⟨b,o+3,none⟩=some (.slice va3 x.zS.length vc3):=(HB4.out.cell HL.out).trans (HCC.out 3 _ rfl)
      have p4:w4.cell? ⟨b,o+4,none⟩=some (.slice (some ⟨b1,off,none⟩) x.zP.length vc4):=(HB4.out.cell HL.out).trans (HCC.out 4 _ rfl)
      have p5:w4.cell? ⟨b,o+5,none⟩=some (.slice va5 x.zF.zC.length vc5):=(HB4.out.cell HL.out).trans (HCC.out 5 _ rfl)
      have lb:b<w4.heap.size:=Nat.lt_of_lt_of_le HL.out HB4.out.size
      have cy0:w4.cell? ⟨b1,off+k * 4,none⟩=some (.int .i64 y.zK):=(HB4.out.cell lty).trans (HCy.out 0 _ rfl)
      have cy1:w4.cell? ⟨b1,off+k * 4+1,none⟩=some (.slice ua1 y.zM.length uc1):=(HB4.out.cell lty).trans (HCy.out 1 _ rfl)
      have cy2:w4.cell? ⟨b1,off+k * 4+2,none⟩=some (.slice ua2 y.zB.length uc2):=(HB4.out.cell lty).trans (HCy.out 2 _ rfl)
      have cy3:w4.cell? ⟨b1,off+k * 4+3,none⟩=some (.slice ua3 y.zL.length uc3):=(HB4.out.cell lty).trans (HCy.out 3 _ rfl)
      have hq4:b1<w4.heap.size:=Nat.lt_of_lt_of_le hb1 HB4.out.size
      by_cases q8:y=noPatch
      ·rw[yX q8];have Q8:=hide q8;clear q8
       go_wp2
       go_roundw
       case rel=>exact⟨k+1,by omega,by go_num,HS.out.step HG.out (.inl Q8.out),HW4.out⟩
       case measure=>simp[intOf];omega
      rw[yW q8];have Q8:=hide q8;clear q8
      by_cases q9:y.zK=1
      rotate_left
      ·have b9:(y.zK != 1)=true:=bneI_t q9;have Q9:=hide q9;clear q9
       go_wp2
       go_ret
       exact⟨yH (yW fun h=>(h.effects k y HG.out).elim Q8.out fun h=>Q9.out h.2.1).symm,HB4.out⟩
      have b9:(y.zK != 1)=false:=bneI_f q9;have Q9:=hide q9;clear q9
      by_cases q10:y.zL.length=1
      rotate_left
      ·have b10:((y.zL.length:Int) != 1)=true:=bneI_t (by omega);have Q10:=hide q10;clear q10
       go_wp2
       go_ret
       exact⟨yH (yW fun h=>(h.effects k y HG.out).elim Q8.out fun h=>Q10.out h.2.2).symm,HB4.out⟩
      have b10:((y.zL.length:Int) != 1)=false:=bneI_f (by omega);have Q10:=hide q10;clear q10
      go_wp2_with fail
      refine(c_l07Ok y _ _ _ hny1 hny2 (T.at_below HAy.out HB4.out)).mono ?_;rintro e w5 ⟨rfl,hb5⟩
      have HB5:=hide (yI HB4.out HB4.out.size hb5);have HW5:=hide (yI HW4.out HW4.out.size hb5);clear hb5
      by_cases q11:PatchOk y
      rotate_left
      ·rw[yW q11];have Q11:=hide q11;clear q11
       go_wp2
       go_ret
       exact⟨yH (yW fun h=>(h.effects k y HG.out).elim Q8.out fun h=>Q11.out h.1).symm,HB5.out⟩
      rw[yX q11];have Q11:=hide q11;clear q11
      go_wp2
      go_roundw
      case rel=>exact⟨k+1,by omega,by go_num,HS.out.step HG.out (.inr ⟨Q11.out,Q9.out,Q10.out⟩),HW5.out⟩
      case measure=>simp[intOf];omega
    have hgk:=List.getElem?_eq_getElem hlt
    obtain⟨b1,off,csy,hA,hb1,hcs,hcell⟩:=HX2.out k x.zO[k] hgk
    subst hA
    generalize x.zO[k]=y at *
    have HG:=hide hgk;clear hgk
    have HAy:=hide (T.at_elem (o:=off+k) hb1 (show T.rds w y.fs csy by simpa only[GTrack.t,T.rd] using hcs) hcell (by omega));clear hcs hcell
    have n1:((k:Int)<(x.zO.length:Int)):=by omega
    have hltf:k<x.zS.length:=by have:=Q5.out;omega
    have hgf:=List.getElem?_eq_getElem hltf
    obtain⟨b3,off3,hA,hb3,hcf⟩:=HX3.out k x.zS[k] hgf
    subst hA
    generalize x.zS[k]=fd at *
    have HF:=hide hgf;clear hgf
    have cf:=(HB.out.cell hb3).trans hcf
    have n2:((k:Int)<(x.zS.length:Int)):=by omega
    by_cases q8:TrackOk y∧Each y.zQ fun _ c=>c.zT<(x.zN.length:Int)
    rotate_left
    ·have b8:=yW q8;have Q8:=hide q8;clear q8
     go_wp2
     have g0:=yF p0
     have g1:=yF p1
     have g2:=yF p2
     have g3:=yF p3
     have g4:=yF p4
     have g5:=yF p5
     have g6:=yF cf
     refine xA (by kernel_rfl) (by kernel_rfl) ?_
     repeat(first|go_big_quiet_skip|(go_big_quiet_want;go_big_quiet_op;first|go_big_quiet_on|(apply Exists.intro;refine⟨fun _=>?_,?_⟩;(· (first|(go_at_call 87;exact Calls.yJ ((c_l00In _ _ _ _).mono (fun e w' h=>by(first|rw[b9] at h|skip);exact h)))|(go_at_call 124;exact Calls.yK ((c_l27Track y _ _ _ _ (by omega) (by omega) (T.at_below HAy.out (yI HB.out HB.out.size (yG wr _)))).mono (fun e w' h=>by(first|rw[b8] at h|skip);exact h)))));go_big_quiet_on)))
     refine wpQuiet_nil ?_
     rintro w9 ⟨uu,rfl⟩
     have hb9:=yG wr uu
     generalize bel wr uu=w9 at *
     have HB9:=hide (yI HB.out HB.out.size hb9);clear g0 g1 g2 g3 g4 g5 g6
     go_wp2
     go_ret
     exact⟨yH (yW fun h=>Q8.out (h.tracks k y HG.out)).symm,HB9.out⟩
    have b8:=yX q8;have Q8:=hide q8;clear q8
    by_cases q9:inB fd 0 ((x.zF.zC.length:Int) - 1)=true
    rotate_left
    ·have b9:inB fd 0 ((x.zF.zC.length:Int) - 1)=false:=(by simpa using q9)
     go_wp2
     have g0:=yF p0
     have g1:=yF p1
     have g2:=yF p2
     have g3:=yF p3
     have g4:=yF p4
     have g5:=yF p5
     have g6:=yF cf
     refine xA (by kernel_rfl) (by kernel_rfl) ?_
     repeat(first|go_big_quiet_skip|(go_big_quiet_want;go_big_quiet_op;first|go_big_quiet_on|(apply Exists.intro;refine⟨fun _=>?_,?_⟩;(· (first|(go_at_call 87;exact Calls.yJ ((c_l00In _ _ _ _).mono (fun e w' h=>by(first|rw[b9] at h|skip);exact h)))|(go_at_call 124;exact Calls.yK ((c_l27Track y _ _ _ _ (by omega) (by omega) (T.at_below HAy.out (yI HB.out HB.out.size (yG wr _)))).mono (fun e w' h=>by(first|rw[b8] at h|skip);exact h)))));go_big_quiet_on)))
     refine wpQuiet_nil ?_
     rintro w9 ⟨uu,rfl⟩
     have hb9:=yG wr uu
     generalize bel wr uu=w9 at *
     have HB9:=hide (yI HB.out HB.out.size hb9);clear g0 g1 g2 g3 g4 g5 g6
     go_wp2
     go_ret
     exact⟨yH (yW fun h=>q9 (yZ.2 (h.feeds k fd HF.out))).symm,HB9.out⟩
    have b9:=q9
    go_wp2
    have g0:=yF p0
    have g1:=yF p1
    have g2:=yF p2
    have g3:=yF p3
    have g4:=yF p4
    have g5:=yF p5
    have g6:=yF cf
    refine xA (by kernel_rfl) (by kernel_rfl) ?_
    repeat(first|go_big_quiet_skip|(go_big_quiet_want;go_big_quiet_op;first|go_big_quiet_on|(apply Exists.intro;refine⟨fun _=>?_,?_⟩;(· (first|(go_at_call 87;exact Calls.yJ ((c_l00In _ _ _ _).mono (fun e w' h=>by(first|rw[b9] at h|skip);exact h)))|(go_at_call 124;exact Calls.yK ((c_l27Track y _ _ _ _ (by omega) (by omega) (T.at_below HAy.out (yI HB.out HB.out.size (yG wr _)))).mono (fun e w' h=>by(first|rw[b8] at h|skip);exact h)))));go_big_quiet_on)))
    refine wpQuiet_nil ?_
    rintro w9 ⟨uu,rfl⟩
    have hb9:=yG wr uu
    generalize bel wr uu=w9 at *
    have HB9:=hide (yI HB.out HB.out.size hb9);clear g0 g1 g2 g3 g4 g5 g6
    have HW9:=hide (yI HW.out HW.out.size hb9);clear hb9
    go_wp2
    go_roundw
    case rel=>exact⟨k+1,by omega,by go_num,HS.out.step HG.out ⟨Q8.out,fun f hf=>by rw[HF.out] at hf;injection hf with hf;subst hf;exact q9⟩,HW9.out⟩
    case measure=>simp[intOf];omega
  have hgk:=List.getElem?_eq_getElem hlt
  obtain⟨b1,off,csy,hA,hb1,hcs,hcell⟩:=HX1.out k x.zN[k] hgk
  subst hA
  generalize x.zN[k]=l at *
  have HG:=hide hgk;clear hgk
  obtain⟨v3,rfl⟩:=T.rd_one hcs
  have d0:=(HB.out.cell hb1).trans (hcell 0 v3 rfl)
  rw[Nat.mul_one,Nat.add_zero] at d0
  have R:=hide (show RdI wr v3 l from Rd.below (T.yR.1 hcs) HB.out);clear hcs hcell
  have hq1:b1<wr.heap.size:=Nat.lt_of_lt_of_le hb1 HB.out.size
  obtain⟨ua,uc,rfl,_,_,_⟩:=R.out.open_
  have n1:((k:Int)<(x.zN.length:Int)):=by omega
  cases a8:sigB l
  ·go_wp2_with (go_at_call 123;refine(c_l03Ok _ l _ R.out).mono ?_;rintro e w' ⟨rfl,rfl⟩;rw[a8])
   go_ret
   exact⟨yH (yW fun h=>by have h1:sigB l=true:=h.sources.each k l HG.out;rw[a8] at h1;exact absurd h1 (by simp)).symm,HB.out⟩
  ·go_wp2_with (go_at_call 123;refine(c_l03Ok _ l _ R.out).mono ?_;rintro e w' ⟨rfl,rfl⟩;rw[a8])
   go_roundw
   case rel=>exact⟨k+1,by omega,by go_num,HS.out.step HG.out a8,HW.out⟩
   case measure=>simp[intOf];omega
end Go.Proofs.YtoibekfhepnedaaGreat
