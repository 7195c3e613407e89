/- Contracts: valid sessions, by the reference. Contracts: valid caches, both sides. Contracts: reading a cache, both sides. -/
import Derived.Test.YtoibekfhepnedaaGreatQAmExactMakeCache
import Derived.Test.YtoibekfhepnedaaGreatQAbExactMakeCache
set_option linter.unusedVariables false
set_option linter.unusedSimpArgs false
set_option maxHeartbeats 2000000
set_option maxRecDepth 20000
namespace Go.Proofs.YtoibekfhepnedaaGreat
section
open Go.RowKit
theorem noPatch_iff {x:xG} :x=uP↔x.zJ=0∧x.zN.length=0∧x.zB.length=0∧x.zK.length=0:=by
 obtain⟨a,b,c,d⟩:=x
 simp[uP]
theorem c_l27None (x:xG) (b o:Nat) (w:World) (h:T.at w x.fs b o):Calls Tryz.prog 125 #[.pointer (some ⟨b,o,none⟩)] w fun e w'=>e= .returned (.bool (tf (x=uP)))∧Below w.heap.size w w':=by
 have HAT:=hide h
 obtain⟨hlt0,cs,hr,hc⟩:=h
 obtain⟨v1,v2,v3,rfl,h1,h2,h3⟩:=xG.yO hr
 clear hr
 have R1:=hide h1;obtain⟨va1,vc1,rfl,vl1,vm1,vx1⟩:=T.yN h1
 have HX1:=hide vx1;clear vx1 h1
 have R2:=hide h2;obtain⟨va2,vc2,rfl,vl2,vm2,vx2⟩:=T.yN h2
 have HX2:=hide vx2;clear vx2 h2
 have h3i:=T.yT.1 h3;obtain⟨va3,vc3,rfl,vl3,vm3,vx3⟩:=h3i.open_
 have R3:=hide h3i;have HX3:=hide vx3;clear vx3 h3 h3i
 have HL:=hide hlt0;have HCC:=hide hc;have HB0:=hide (Below.refl w.heap.size w);clear hlt0 hc
 have p0:w.cell? ⟨b,o,none⟩=some (.int .i64 x.zJ):=(HB0.out.cell HL.out).trans (HCC.out 0 _ rfl)
 have p1:w.cell? ⟨b,o+1,none⟩=some (.slice va1 x.zN.length vc1):=(HB0.out.cell HL.out).trans (HCC.out 1 _ rfl)
 have p2:w.cell? ⟨b,o+2,none⟩=some (.slice va2 x.zB.length vc2):=(HB0.out.cell HL.out).trans (HCC.out 2 _ rfl)
 have p3:w.cell? ⟨b,o+3,none⟩=some (.slice va3 x.zK.length vc3):=(HB0.out.cell HL.out).trans (HCC.out 3 _ rfl)
 have lb:b<w.heap.size:=lL HL.out HB0.out.size
 go_enter Tryz.func125,Tryz.ntmps125
 by_cases q0:x.zJ=0
 rotate_left
 ·have b0:(x.zJ == 0)=false:=yR (by omega);have Q0:=hide q0;clear q0
  go_wp2
  go_ret
  exact⟨yI (yZ fun h=>Q0.out (noPatch_iff.1 h).1).symm,HB0.out⟩
 have b0:(x.zJ == 0)=true:=yS (by omega);have Q0:=hide q0;clear q0
 by_cases q1:x.zN.length=0
 rotate_left
 ·have b1:((x.zN.length:Int) == 0)=false:=yR (by omega);have Q1:=hide q1;clear q1
  go_wp2
  go_ret
  exact⟨yI (yZ fun h=>Q1.out (noPatch_iff.1 h).2.1).symm,HB0.out⟩
 have b1:((x.zN.length:Int) == 0)=true:=yS (by omega);have Q1:=hide q1;clear q1
 by_cases q2:x.zB.length=0
 rotate_left
 ·have b2:((x.zB.length:Int) == 0)=false:=yR (by omega);have Q2:=hide q2;clear q2
  go_wp2
  go_ret
  exact⟨yI (yZ fun h=>Q2.out (noPatch_iff.1 h).2.2.1).symm,HB0.out⟩
 have b2:((x.zB.length:Int) == 0)=true:=yS (by omega);have Q2:=hide q2;clear q2
 by_cases q3:x.zK.length=0
 rotate_left
 ·have b3:((x.zK.length:Int) == 0)=false:=yR (by omega);have Q3:=hide q3;clear q3
  go_wp2
  go_ret
  exact⟨yI (yZ fun h=>Q3.out (noPatch_iff.1 h).2.2.2).symm,HB0.out⟩
 have b3:((x.zK.length:Int) == 0)=true:=yS (by omega);have Q3:=hide q3;clear q3
 go_wp2
 go_ret
 exact⟨yI (xA (noPatch_iff.2 ⟨Q0.out,Q1.out,Q2.out,Q3.out⟩)).symm,HB0.out⟩
theorem c_l27Ok (x:xK) (b o:Nat) (w:World) (hs:x.small) (h:T.at w x.fs b o):Calls Tryz.prog 54 #[.pointer (some ⟨b,o,none⟩)] w fun e w'=>e= .returned (.bool (tf (vL x)))∧Below w.heap.size w w':=by
 have HAT:=hide h
 obtain⟨hlt0,cs,hr,hc⟩:=h
 obtain⟨v1,v2,v3,v4,v5,rfl,h1,h2,h3,h4,h5⟩:=xK.yO hr
 clear hr
 have R1:=hide h1;obtain⟨va1,vc1,rfl,vl1,vm1,vx1⟩:=T.yN h1
 have HX1:=hide vx1;clear vx1 h1
 have R2:=hide h2;obtain⟨va2,vc2,rfl,vl2,vm2,vx2⟩:=T.yN h2
 have HX2:=hide vx2;clear vx2 h2
 have h3i:=T.yT.1 h3;obtain⟨va3,vc3,rfl,vl3,vm3,vx3⟩:=h3i.open_
 have R3:=hide h3i;have HX3:=hide vx3;clear vx3 h3 h3i
 have R4:=hide h4;obtain⟨va4,vc4,rfl,vl4,vm4,vx4⟩:=T.yN h4
 have HX4:=hide vx4;clear vx4 h4
 have R5:=hide h5;obtain⟨va5,vc5,rfl,vl5,vm5,vx5⟩:=T.yN h5
 have HX5:=hide vx5;clear vx5 h5
 have HL:=hide hlt0;have HCC:=hide hc;have HB0:=hide (Below.refl w.heap.size w);clear hlt0 hc
 have hn5:x.zG.zC.length≤1048576:=hs.2.2.2.2.1
 have HEF:=hide hs.2.2.2.1.2;clear hs
 have HATM:=hide (show T.at w x.zG.fs b (o+5) from T.at_sub [.int .i64 x.zF,(.slice va1 x.zL.length vc1),(.slice va2 x.zO.length vc2),(.slice va3 x.zQ.length vc3),(.slice va4 x.zP.length vc4)] [(.slice va5 x.zG.zC.length vc5)] [] HL.out HCC.out (xU.rd_mk R5.out))
 have p0:w.cell? ⟨b,o,none⟩=some (.int .i64 x.zF):=(HB0.out.cell HL.out).trans (HCC.out 0 _ rfl)
 have p1:w.cell? ⟨b,o+1,none⟩=some (.slice va1 x.zL.length vc1):=(HB0.out.cell HL.out).trans (HCC.out 1 _ rfl)
 have p2:w.cell? ⟨b,o+2,none⟩=some (.slice va2 x.zO.length vc2):=(HB0.out.cell HL.out).trans (HCC.out 2 _ rfl)
 have p3:w.cell? ⟨b,o+3,none⟩=some (.slice va3 x.zQ.length vc3):=(HB0.out.cell HL.out).trans (HCC.out 3 _ rfl)
 have p4:w.cell? ⟨b,o+4,none⟩=some (.slice va4 x.zP.length vc4):=(HB0.out.cell HL.out).trans (HCC.out 4 _ rfl)
 have p5:w.cell? ⟨b,o+5,none⟩=some (.slice va5 x.zG.zC.length vc5):=(HB0.out.cell HL.out).trans (HCC.out 5 _ rfl)
 have lb:b<w.heap.size:=lL HL.out HB0.out.size
 go_enter Tryz.func54,Tryz.ntmps54
 go_wp2
 by_cases q1:inB x.zF 0 1000=true
 rotate_left
 ·have q1':inB x.zF 0 1000=false:=(by simpa using q1)
  have g0:=yG p0
  have g1:=yG p1
  have g2:=yG p2
  have g3:=yG p3
  have g4:=yG p4
  have g5:=yG p5
  refine xD (by kernel_rfl) (by kernel_rfl) ?_
  repeat(first|go_big_quiet_skip|(go_big_quiet_want;go_big_quiet_op;first|go_big_quiet_on|(apply Exists.intro;refine⟨fun _=>?_,?_⟩;(· (first|(go_at_call 87;exact Calls.yK ((xX _ _ _ _).mono (fun e w' h=>by(first|rw[q1'] at h|skip);exact h)))|(go_at_call 122;exact Calls.yL ((c_l26Ok x.zG _ _ _ hn5 (T.at_below HATM.out (yH w _))).mono (fun e w' h=>by(first|rw[a4] at h|skip);exact h)))));go_big_quiet_on)))
  refine wpQuiet_nil ?_
  rintro w9 ⟨uu,rfl⟩
  have hb9:=yH w uu
  generalize bel w uu=w9 at *
  have HB9:=hide (yJ HB0.out HB0.out.size hb9);clear g0 g1 g2 g3 g4 g5
  go_wp2
  go_ret
  exact⟨yI (yZ fun h=>q1 h.length).symm,HB9.out⟩
 have q1':=q1
 by_cases q2:x.zL.length≤6
 rotate_left
 ·have d2:decide ((6:Int)<(x.zL.length:Int))=true:=decide_eq_true (by omega)
  have g0:=yG p0
  have g1:=yG p1
  have g2:=yG p2
  have g3:=yG p3
  have g4:=yG p4
  have g5:=yG p5
  refine xD (by kernel_rfl) (by kernel_rfl) ?_
  repeat(first|go_big_quiet_skip|(go_big_quiet_want;go_big_quiet_op;first|go_big_quiet_on|(apply Exists.intro;refine⟨fun _=>?_,?_⟩;(· (first|(go_at_call 87;exact Calls.yK ((xX _ _ _ _).mono (fun e w' h=>by(first|rw[q1'] at h|skip);exact h)))|(go_at_call 122;exact Calls.yL ((c_l26Ok x.zG _ _ _ hn5 (T.at_below HATM.out (yH w _))).mono (fun e w' h=>by(first|rw[a4] at h|skip);exact h)))));go_big_quiet_on)))
  refine wpQuiet_nil ?_
  rintro w9 ⟨uu,rfl⟩
  have hb9:=yH w uu
  generalize bel w uu=w9 at *
  have HB9:=hide (yJ HB0.out HB0.out.size hb9);clear g0 g1 g2 g3 g4 g5
  go_wp2
  go_ret
  exact⟨yI (yZ fun h=>q2 h.sources.few).symm,HB9.out⟩
 have Q2:=hide q2;have d2:decide ((6:Int)<(x.zL.length:Int))=false:=decide_eq_false (by omega)
 by_cases q3:x.zO.length≤6
 rotate_left
 ·have d3:decide ((6:Int)<(x.zO.length:Int))=true:=decide_eq_true (by omega)
  have g0:=yG p0
  have g1:=yG p1
  have g2:=yG p2
  have g3:=yG p3
  have g4:=yG p4
  have g5:=yG p5
  refine xD (by kernel_rfl) (by kernel_rfl) ?_
  repeat(first|go_big_quiet_skip|(go_big_quiet_want;go_big_quiet_op;first|go_big_quiet_on|(apply Exists.intro;refine⟨fun _=>?_,?_⟩;(· (first|(go_at_call 87;exact Calls.yK ((xX _ _ _ _).mono (fun e w' h=>by(first|rw[q1'] at h|skip);exact h)))|(go_at_call 122;exact Calls.yL ((c_l26Ok x.zG _ _ _ hn5 (T.at_below HATM.out (yH w _))).mono (fun e w' h=>by(first|rw[a4] at h|skip);exact h)))));go_big_quiet_on)))
  refine wpQuiet_nil ?_
  rintro w9 ⟨uu,rfl⟩
  have hb9:=yH w uu
  generalize bel w uu=w9 at *
  have HB9:=hide (yJ HB0.out HB0.out.size hb9);clear g0 g1 g2 g3 g4 g5
  go_wp2
  go_ret
  exact⟨yI (yZ fun h=>q3 h.few).symm,HB9.out⟩
 have Q3:=hide q3;have d3:decide ((6:Int)<(x.zO.length:Int))=false:=decide_eq_false (by omega)
 by_cases q4:vU x.zG
 rotate_left
 ·have a4:=yZ q4;have Q4:=hide q4;clear q4
  have g0:=yG p0
  have g1:=yG p1
  have g2:=yG p2
  have g3:=yG p3
  have g4:=yG p4
  have g5:=yG p5
  refine xD (by kernel_rfl) (by kernel_rfl) ?_
  repeat(first|go_big_quiet_skip|(go_big_quiet_want;go_big_quiet_op;first|go_big_quiet_on|(apply Exists.intro;refine⟨fun _=>?_,?_⟩;(· (first|(go_at_call 87;exact Calls.yK ((xX _ _ _ _).mono (fun e w' h=>by(first|rw[q1'] at h|skip);exact h)))|(go_at_call 122;exact Calls.yL ((c_l26Ok x.zG _ _ _ hn5 (T.at_below HATM.out (yH w _))).mono (fun e w' h=>by(first|rw[a4] at h|skip);exact h)))));go_big_quiet_on)))
  refine wpQuiet_nil ?_
  rintro w9 ⟨uu,rfl⟩
  have hb9:=yH w uu
  generalize bel w uu=w9 at *
  have HB9:=hide (yJ HB0.out HB0.out.size hb9);clear g0 g1 g2 g3 g4 g5
  go_wp2
  go_ret
  exact⟨yI (yZ fun h=>Q4.out h.mixer).symm,HB9.out⟩
 have a4:=xA q4;have Q4:=hide q4;clear q4
 by_cases q5:x.zQ.length=x.zO.length
 rotate_left
 ·have b5:((x.zQ.length:Int) != (x.zO.length:Int))=true:=bneI_t (by omega);have Q5:=hide q5;clear q5
  have g0:=yG p0
  have g1:=yG p1
  have g2:=yG p2
  have g3:=yG p3
  have g4:=yG p4
  have g5:=yG p5
  refine xD (by kernel_rfl) (by kernel_rfl) ?_
  repeat(first|go_big_quiet_skip|(go_big_quiet_want;go_big_quiet_op;first|go_big_quiet_on|(apply Exists.intro;refine⟨fun _=>?_,?_⟩;(· (first|(go_at_call 87;exact Calls.yK ((xX _ _ _ _).mono (fun e w' h=>by(first|rw[q1'] at h|skip);exact h)))|(go_at_call 122;exact Calls.yL ((c_l26Ok x.zG _ _ _ hn5 (T.at_below HATM.out (yH w _))).mono (fun e w' h=>by(first|rw[a4] at h|skip);exact h)))));go_big_quiet_on)))
  refine wpQuiet_nil ?_
  rintro w9 ⟨uu,rfl⟩
  have hb9:=yH w uu
  generalize bel w uu=w9 at *
  have HB9:=hide (yJ HB0.out HB0.out.size hb9);clear g0 g1 g2 g3 g4 g5
  go_wp2
  go_ret
  exact⟨yI (yZ fun h=>Q5.out h.feed).symm,HB9.out⟩
 have b5:((x.zQ.length:Int) != (x.zO.length:Int))=false:=bneI_f (by omega);have Q5:=hide q5;clear q5
 by_cases q7:x.zP.length=x.zG.zC.length
 rotate_left
 ·have b7:((x.zP.length:Int) != (x.zG.zC.length:Int))=true:=bneI_t (by omega);have Q7:=hide q7;clear q7
  have g0:=yG p0
  have g1:=yG p1
  have g2:=yG p2
  have g3:=yG p3
  have g4:=yG p4
  have g5:=yG p5
  refine xD (by kernel_rfl) (by kernel_rfl) ?_
  repeat(first|go_big_quiet_skip|(go_big_quiet_want;go_big_quiet_op;first|go_big_quiet_on|(apply Exists.intro;refine⟨fun _=>?_,?_⟩;(· (first|(go_at_call 87;exact Calls.yK ((xX _ _ _ _).mono (fun e w' h=>by(first|rw[q1'] at h|skip);exact h)))|(go_at_call 122;exact Calls.yL ((c_l26Ok x.zG _ _ _ hn5 (T.at_below HATM.out (yH w _))).mono (fun e w' h=>by(first|rw[a4] at h|skip);exact h)))));go_big_quiet_on)))
  refine wpQuiet_nil ?_
  rintro w9 ⟨uu,rfl⟩
  have hb9:=yH w uu
  generalize bel w uu=w9 at *
  have HB9:=hide (yJ HB0.out HB0.out.size hb9);clear g0 g1 g2 g3 g4 g5
  go_wp2
  go_ret
  exact⟨yI (yZ fun h=>Q7.out h.effect).symm,HB9.out⟩
 have b7:((x.zP.length:Int) != (x.zG.zC.length:Int))=false:=bneI_f (by omega);have Q7:=hide q7;clear q7
 have g0:=yG p0
 have g1:=yG p1
 have g2:=yG p2
 have g3:=yG p3
 have g4:=yG p4
 have g5:=yG p5
 refine xD (by kernel_rfl) (by kernel_rfl) ?_
 repeat(first|go_big_quiet_skip|(go_big_quiet_want;go_big_quiet_op;first|go_big_quiet_on|(apply Exists.intro;refine⟨fun _=>?_,?_⟩;(· (first|(go_at_call 87;exact Calls.yK ((xX _ _ _ _).mono (fun e w' h=>by(first|rw[q1'] at h|skip);exact h)))|(go_at_call 122;exact Calls.yL ((c_l26Ok x.zG _ _ _ hn5 (T.at_below HATM.out (yH w _))).mono (fun e w' h=>by(first|rw[a4] at h|skip);exact h)))));go_big_quiet_on)))
 refine wpQuiet_nil ?_
 rintro w9 ⟨uu,rfl⟩
 have hb9:=yH w uu
 generalize bel w uu=w9 at *
 have HB9:=hide (yJ HB0.out HB0.out.size hb9);clear g0 g1 g2 g3 g4 g5
 clear hb9 p0 p1 p2 p3 p4 p5 lb a4 b5 b7 d2 d3
 have p0:w9.cell? ⟨b,o,none⟩=some (.int .i64 x.zF):=(HB9.out.cell HL.out).trans (HCC.out 0 _ rfl)
 have p1:w9.cell? ⟨b,o+1,none⟩=some (.slice va1 x.zL.length vc1):=(HB9.out.cell HL.out).trans (HCC.out 1 _ rfl)
 have p2:w9.cell? ⟨b,o+2,none⟩=some (.slice va2 x.zO.length vc2):=(HB9.out.cell HL.out).trans (HCC.out 2 _ rfl)
 have p3:w9.cell? ⟨b,o+3,none⟩=some (.slice va3 x.zQ.length vc3):=(HB9.out.cell HL.out).trans (HCC.out 3 _ rfl)
 have p4:w9.cell? ⟨b,o+4,none⟩=some (.slice va4 x.zP.length vc4):=(HB9.out.cell HL.out).trans (HCC.out 4 _ rfl)
 have p5:w9.cell? ⟨b,o+5,none⟩=some (.slice va5 x.zG.zC.length vc5):=(HB9.out.cell HL.out).trans (HCC.out 5 _ rfl)
 have lb:b<w9.heap.size:=lL HL.out HB9.out.size
 go_wp2
 clear p0 p1 p2 p3 p4 p5 lb
 go_loopw [3] (fun i wr=> ∃ k:Nat,k≤x.zL.length∧i= .int .i64 k∧vI x.zL (fun _ l=>sigB l=true) k∧Below w9.heap.size w9 wr) (fun i _=>x.zL.length - (intOf i).toNat)
 case atStart=>exact⟨0,Nat.zero_le _,rfl,vI.zero,Below.refl _ _⟩
 case round=>
  obtain⟨k,hk,rfl,hs,hbw⟩:=hrel
  have HS:=hide hs;have HW:=hide hbw;have HB:=hide (yJ HB9.out HB9.out.size hbw);clear hs hbw
  have p0:wr.cell? ⟨b,o,none⟩=some (.int .i64 x.zF):=(HB.out.cell HL.out).trans (HCC.out 0 _ rfl)
  have p1:wr.cell? ⟨b,o+1,none⟩=some (.slice va1 x.zL.length vc1):=(HB.out.cell HL.out).trans (HCC.out 1 _ rfl)
  have p2:wr.cell? ⟨b,o+2,none⟩=some (.slice va2 x.zO.length vc2):=(HB.out.cell HL.out).trans (HCC.out 2 _ rfl)
  have p3:wr.cell? ⟨b,o+3,none⟩=some (.slice va3 x.zQ.length vc3):=(HB.out.cell HL.out).trans (HCC.out 3 _ rfl)
  have p4:wr.cell? ⟨b,o+4,none⟩=some (.slice va4 x.zP.length vc4):=(HB.out.cell HL.out).trans (HCC.out 4 _ rfl)
  have p5:wr.cell? ⟨b,o+5,none⟩=some (.slice va5 x.zG.zC.length vc5):=(HB.out.cell HL.out).trans (HCC.out 5 _ rfl)
  have lb:b<wr.heap.size:=lL HL.out HB.out.size
  by_cases hlt:k<x.zL.length
  rotate_left
  ·have hall1:=hide (HS.out.all (by omega));clear HS
   generalize wr=w2 at *
   have HB2:=HB;clear HB
   go_wp2
   clear p0 p1 p2 p3 p4 p5 lb
   go_loopw [4] (fun i wr=> ∃ k:Nat,k≤x.zO.length∧i= .int .i64 k∧vI x.zO (fun i t=>(TrackOk t∧Each t.zR fun _ c=>c.zU<(x.zL.length:Int))∧ ∀ f,x.zQ[i]?=some f→inB f 0 ((x.zG.zC.length:Int) - 1)=true) k∧Below w2.heap.size w2 wr) (fun i _=>x.zO.length - (intOf i).toNat)
   case atStart=>exact⟨0,Nat.zero_le _,rfl,vI.zero,Below.refl _ _⟩
   case round=>
    obtain⟨k,hk,rfl,hs,hbw⟩:=hrel
    have HS:=hide hs;have HW:=hide hbw;have HB:=hide (yJ HB2.out HB2.out.size hbw);clear hs hbw
    have p0:wr.cell? ⟨b,o,none⟩=some (.int .i64 x.zF):=(HB.out.cell HL.out).trans (HCC.out 0 _ rfl)
    have p1:wr.cell? ⟨b,o+1,none⟩=some (.slice va1 x.zL.length vc1):=(HB.out.cell HL.out).trans (HCC.out 1 _ rfl)
    have p2:wr.cell? ⟨b,o+2,none⟩=some (.slice va2 x.zO.length vc2):=(HB.out.cell HL.out).trans (HCC.out 2 _ rfl)
    have p3:wr.cell? ⟨b,o+3,none⟩=some (.slice va3 x.zQ.length vc3):=(HB.out.cell HL.out).trans (HCC.out 3 _ rfl)
    have p4:wr.cell? ⟨b,o+4,none⟩=some (.slice va4 x.zP.length vc4):=(HB.out.cell HL.out).trans (HCC.out 4 _ rfl)
    have p5:wr.cell? ⟨b,o+5,none⟩=some (.slice va5 x.zG.zC.length vc5):=(HB.out.cell HL.out).trans (HCC.out 5 _ rfl)
    have lb:b<wr.heap.size:=lL HL.out HB.out.size
    by_cases hlt:k<x.zO.length
    rotate_left
    ·have hall2:=hide (HS.out.all (by omega));clear HS
     generalize wr=w3 at *
     have HB3:=HB;clear HB
     go_wp2
     clear p0 p1 p2 p3 p4 p5 lb
     go_loopw [5] (fun i wr=> ∃ k:Nat,k≤x.zP.length∧i= .int .i64 k∧vI x.zP (fun _ p=>EffectOk p) k∧Below w3.heap.size w3 wr) (fun i _=>x.zP.length - (intOf i).toNat)
     case atStart=>exact⟨0,Nat.zero_le _,rfl,vI.zero,Below.refl _ _⟩
     case round=>
      obtain⟨k,hk,rfl,hs,hbw⟩:=hrel
      have HS:=hide hs;have HW:=hide hbw;have HB:=hide (yJ HB3.out HB3.out.size hbw);clear hs hbw
      have p0:wr.cell? ⟨b,o,none⟩=some (.int .i64 x.zF):=(HB.out.cell HL.out).trans (HCC.out 0 _ rfl)
      have p1:wr.cell? ⟨b,o+1,none⟩=some (.slice va1 x.zL.length vc1):=(HB.out.cell HL.out).trans (HCC.out 1 _ rfl)
      have p2:wr.cell? ⟨b,o+2,none⟩=some (.slice va2 x.zO.length vc2):=(HB.out.cell HL.out).trans (HCC.out 2 _ rfl)
      have p3:wr.cell? ⟨b,o+3,none⟩=some (.slice va3 x.zQ.length vc3):=(HB.out.cell HL.out).trans (HCC.out 3 _ rfl)
      have p4:wr.cell? ⟨b,o+4,none⟩=some (.slice va4 x.zP.length vc4):=(HB.out.cell HL.out).trans (HCC.out 4 _ rfl)
      have p5:wr.cell? ⟨b,o+5,none⟩=some (.slice va5 x.zG.zC.length vc5):=(HB.out.cell HL.out).trans (HCC.out 5 _ rfl)
      have lb:b<wr.heap.size:=lL HL.out HB.out.size
      by_cases hlt:k<x.zP.length
      rotate_left
      ·have hall3:=hide (HS.out.all (by omega));clear HS
       go_wp2
       go_ret
       exact⟨yI (xA ⟨q1,⟨hall1.out,Q2.out⟩,Q3.out,Q4.out,Q5.out,fun i f hf=>by
      have hi:=(List.getElem?_eq_some_iff.1 hf).1
      exact xC.1 ((hall2.out i _ (gE (by have:=Q5.out;omega))).2 f hf),Q7.out,fun i t ht=>(hall2.out i t ht).1,hall3.out⟩).symm,HB.out⟩
      have hgk:=gE hlt
      obtain⟨b1,off,csy,hA,hb1,hcs,hcell⟩:=HX4.out k x.zP[k] hgk
      subst hA
      generalize x.zP[k]=y at *
      have HG:=hide hgk;clear hgk
      have HAy:=hide (T.at_elem (o:=off+k * 4) hb1 (show T.rds w y.fs csy by simpa only[xG.t,T.rd] using hcs) hcell (by omega));clear hcs hcell
      have n1:((k:Int)<(x.zP.length:Int)):=by omega
      have hq1:b1<wr.heap.size:=lL hb1 HB.out.size
      have hny:=(HEF.out y (List.mem_of_getElem? HG.out))
      have hny1:y.zB.length≤1048576:=hny.2.1.1
      have hny2:y.zN.length≤1048576:=hny.1.1
      clear hny
      obtain⟨lty,csy',hry,hcy⟩:=HAy.out
      obtain⟨u1,u2,u3,rfl,hu1,hu2,hu3⟩:=xG.yO hry
      have Ru1:=hide hu1;obtain⟨ua1,uc1,rfl,ul1,um1,ux1⟩:=T.yN hu1;have HXu1:=hide ux1;clear ux1 hu1
      have Ru2:=hide hu2;obtain⟨ua2,uc2,rfl,ul2,um2,ux2⟩:=T.yN hu2;have HXu2:=hide ux2;clear ux2 hu2
      have Ru3:=hide (T.yT.1 hu3);obtain⟨ua3,uc3,rfl,ul3,um3,ux3⟩:=Ru3.out.open_;have HXu3:=hide ux3;clear ux3 hu3
      have HCy:=hide hcy;clear hry hcy
      have cy0:wr.cell? ⟨b1,off+k * 4,none⟩=some (.int .i64 y.zJ):=(HB.out.cell lty).trans (HCy.out 0 _ rfl)
      have cy1:wr.cell? ⟨b1,off+k * 4+1,none⟩=some (.slice ua1 y.zN.length uc1):=(HB.out.cell lty).trans (HCy.out 1 _ rfl)
      have cy2:wr.cell? ⟨b1,off+k * 4+2,none⟩=some (.slice ua2 y.zB.length uc2):=(HB.out.cell lty).trans (HCy.out 2 _ rfl)
      have cy3:wr.cell? ⟨b1,off+k * 4+3,none⟩=some (.slice ua3 y.zK.length uc3):=(HB.out.cell lty).trans (HCy.out 3 _ rfl)
      go_wp2_with fail
      refine(c_l27None y _ _ _ (T.at_below HAy.out HB.out)).mono ?_;rintro e w4 ⟨rfl,hb4⟩
      have HB4:=hide (yJ HB.out HB.out.size hb4);have HW4:=hide (yJ HW.out HW.out.size hb4);clear hb4 cy0 cy1 cy2 cy3
      clear p0 p1 p2 p3 p4 p5 lb
      have p0:w4.cell? ⟨b,o,none⟩=some (.int .i64 x.zF):=(HB4.out.cell HL.out).trans (HCC.out 0 _ rfl)
      have p1:w4.cell? ⟨b,o+1,none⟩=some (.slice va1 x.zL.length vc1):=(HB4.out.cell HL.out).trans (HCC.out 1 _ rfl)
      have p2:w4.cell? ⟨b,o+2,none⟩=some (.slice va2 x.zO.length vc2):=(HB4.out.cell HL.out).trans (HCC.out 2 _ rfl)
      have p3:w4.cell? ⟨b,o+3,none⟩=some (.slice va3 x.zQ.length vc3):=(HB4.out.cell HL.out).trans (HCC.out 3 _ rfl)
      have p4:w4.cell? ⟨b,o+4,none⟩=some (.slice (some ⟨b1,off,none⟩) x.zP.length vc4):=(HB4.out.cell HL.out).trans (HCC.out 4 _ rfl)
      have p5:w4.cell? ⟨b,o+5,none⟩=some (.slice va5 x.zG.zC.length vc5):=(HB4.out.cell HL.out).trans (HCC.out 5 _ rfl)
      have lb:b<w4.heap.size:=lL HL.out HB4.out.size
      have cy0:w4.cell? ⟨b1,off+k * 4,none⟩=some (.int .i64 y.zJ):=(HB4.out.cell lty).trans (HCy.out 0 _ rfl)
      have cy1:w4.cell? ⟨b1,off+k * 4+1,none⟩=some (.slice ua1 y.zN.length uc1):=(HB4.out.cell lty).trans (HCy.out 1 _ rfl)
      have cy2:w4.cell? ⟨b1,off+k * 4+2,none⟩=some (.slice ua2 y.zB.length uc2):=(HB4.out.cell lty).trans (HCy.out 2 _ rfl)
      have cy3:w4.cell? ⟨b1,off+k * 4+3,none⟩=some (.slice ua3 y.zK.length uc3):=(HB4.out.cell lty).trans (HCy.out 3 _ rfl)
      have hq4:b1<w4.heap.size:=lL hb1 HB4.out.size
      by_cases q8:y=uP
      ·rw[xA q8];have Q8:=hide q8;clear q8
       go_wp2
       go_roundw
       case rel=>exact⟨k+1,by omega,by go_num,HS.out.step HG.out (.inl Q8.out),HW4.out⟩
       case measure=>simp[intOf];omega
      rw[yZ q8];have Q8:=hide q8;clear q8
      by_cases q9:y.zJ=1
      rotate_left
      ·have b9:(y.zJ != 1)=true:=bneI_t q9;have Q9:=hide q9;clear q9
       go_wp2
       go_ret
       exact⟨yI (yZ fun h=>(h.effects k y HG.out).elim Q8.out fun h=>Q9.out h.2.1).symm,HB4.out⟩
      have b9:(y.zJ != 1)=false:=bneI_f q9;have Q9:=hide q9;clear q9
      by_cases q10:y.zK.length=1
      rotate_left
      ·have b10:((y.zK.length:Int) != 1)=true:=bneI_t (by omega);have Q10:=hide q10;clear q10
       go_wp2
       go_ret
       exact⟨yI (yZ fun h=>(h.effects k y HG.out).elim Q8.out fun h=>Q10.out h.2.2).symm,HB4.out⟩
      have b10:((y.zK.length:Int) != 1)=false:=bneI_f (by omega);have Q10:=hide q10;clear q10
      go_wp2_with fail
      refine(c_l07Ok y _ _ _ hny1 hny2 (T.at_below HAy.out HB4.out)).mono ?_;rintro e w5 ⟨rfl,hb5⟩
      have HB5:=hide (yJ HB4.out HB4.out.size hb5);have HW5:=hide (yJ HW4.out HW4.out.size hb5);clear hb5
      by_cases q11:wZ y
      rotate_left
      ·rw[yZ q11];have Q11:=hide q11;clear q11
       go_wp2
       go_ret
       exact⟨yI (yZ fun h=>(h.effects k y HG.out).elim Q8.out fun h=>Q11.out h.1).symm,HB5.out⟩
      rw[xA q11];have Q11:=hide q11;clear q11
      go_wp2
      go_roundw
      case rel=>exact⟨k+1,by omega,by go_num,HS.out.step HG.out (.inr ⟨Q11.out,Q9.out,Q10.out⟩),HW5.out⟩
      case measure=>simp[intOf];omega
    have hgk:=gE hlt
    obtain⟨b1,off,csy,hA,hb1,hcs,hcell⟩:=HX2.out k x.zO[k] hgk
    subst hA
    generalize x.zO[k]=y at *
    have HG:=hide hgk;clear hgk
    have HAy:=hide (T.at_elem (o:=off+k) hb1 (show T.rds w y.fs csy by simpa only[xI.t,T.rd] using hcs) hcell (by omega));clear hcs hcell
    have n1:((k:Int)<(x.zO.length:Int)):=by omega
    have hltf:k<x.zQ.length:=by have:=Q5.out;omega
    have hgf:=gE hltf
    obtain⟨b3,off3,hA,hb3,hcf⟩:=HX3.out k x.zQ[k] hgf
    subst hA
    generalize x.zQ[k]=fd at *
    have HF:=hide hgf;clear hgf
    have cf:=(HB.out.cell hb3).trans hcf
    have n2:((k:Int)<(x.zQ.length:Int)):=by omega
    by_cases q8:TrackOk y∧Each y.zR fun _ c=>c.zU<(x.zL.length:Int)
    rotate_left
    ·have b8:=yZ q8;have Q8:=hide q8;clear q8
     go_wp2
     have g0:=yG p0
     have g1:=yG p1
     have g2:=yG p2
     have g3:=yG p3
     have g4:=yG p4
     have g5:=yG p5
     have g6:=yG cf
     refine xD (by kernel_rfl) (by kernel_rfl) ?_
     repeat(first|go_big_quiet_skip|(go_big_quiet_want;go_big_quiet_op;first|go_big_quiet_on|(apply Exists.intro;refine⟨fun _=>?_,?_⟩;(· (first|(go_at_call 87;exact Calls.yK ((xX _ _ _ _).mono (fun e w' h=>by(first|rw[b9] at h|skip);exact h)))|(go_at_call 124;exact Calls.yL ((c_l27Track y _ _ _ _ (by omega) (by omega) (T.at_below HAy.out (yJ HB.out HB.out.size (yH wr _)))).mono (fun e w' h=>by(first|rw[b8] at h|skip);exact h)))));go_big_quiet_on)))
     refine wpQuiet_nil ?_
     rintro w9 ⟨uu,rfl⟩
     have hb9:=yH wr uu
     generalize bel wr uu=w9 at *
     have HB9:=hide (yJ HB.out HB.out.size hb9);clear g0 g1 g2 g3 g4 g5 g6
     go_wp2
     go_ret
     exact⟨yI (yZ fun h=>Q8.out (h.tracks k y HG.out)).symm,HB9.out⟩
    have b8:=xA q8;have Q8:=hide q8;clear q8
    by_cases q9:inB fd 0 ((x.zG.zC.length:Int) - 1)=true
    rotate_left
    ·have b9:inB fd 0 ((x.zG.zC.length:Int) - 1)=false:=(by simpa using q9)
     go_wp2
     have g0:=yG p0
     have g1:=yG p1
     have g2:=yG p2
     have g3:=yG p3
     have g4:=yG p4
     have g5:=yG p5
     have g6:=yG cf
     refine xD (by kernel_rfl) (by kernel_rfl) ?_
     repeat(first|go_big_quiet_skip|(go_big_quiet_want;go_big_quiet_op;first|go_big_quiet_on|(apply Exists.intro;refine⟨fun _=>?_,?_⟩;(· (first|(go_at_call 87;exact Calls.yK ((xX _ _ _ _).mono (fun e w' h=>by(first|rw[b9] at h|skip);exact h)))|(go_at_call 124;exact Calls.yL ((c_l27Track y _ _ _ _ (by omega) (by omega) (T.at_below HAy.out (yJ HB.out HB.out.size (yH wr _)))).mono (fun e w' h=>by(first|rw[b8] at h|skip);exact h)))));go_big_quiet_on)))
     refine wpQuiet_nil ?_
     rintro w9 ⟨uu,rfl⟩
     have hb9:=yH wr uu
     generalize bel wr uu=w9 at *
     have HB9:=hide (yJ HB.out HB.out.size hb9);clear g0 g1 g2 g3 g4 g5 g6
     go_wp2
     go_ret
     exact⟨yI (yZ fun h=>q9 (xC.2 (h.feeds k fd HF.out))).symm,HB9.out⟩
    have b9:=q9
    go_wp2
    have g0:=yG p0
    have g1:=yG p1
    have g2:=yG p2
    have g3:=yG p3
    have g4:=yG p4
    have g5:=yG p5
    have g6:=yG cf
    refine xD (by kernel_rfl) (by kernel_rfl) ?_
    repeat(first|go_big_quiet_skip|(go_big_quiet_want;go_big_quiet_op;first|go_big_quiet_on|(apply Exists.intro;refine⟨fun _=>?_,?_⟩;(· (first|(go_at_call 87;exact Calls.yK ((xX _ _ _ _).mono (fun e w' h=>by(first|rw[b9] at h|skip);exact h)))|(go_at_call 124;exact Calls.yL ((c_l27Track y _ _ _ _ (by omega) (by omega) (T.at_below HAy.out (yJ HB.out HB.out.size (yH wr _)))).mono (fun e w' h=>by(first|rw[b8] at h|skip);exact h)))));go_big_quiet_on)))
    refine wpQuiet_nil ?_
    rintro w9 ⟨uu,rfl⟩
    have hb9:=yH wr uu
    generalize bel wr uu=w9 at *
    have HB9:=hide (yJ HB.out HB.out.size hb9);clear g0 g1 g2 g3 g4 g5 g6
    have HW9:=hide (yJ HW.out HW.out.size hb9);clear hb9
    go_wp2
    go_roundw
    case rel=>exact⟨k+1,by omega,by go_num,HS.out.step HG.out ⟨Q8.out,fun f hf=>by rw[HF.out] at hf;injection hf with hf;subst hf;exact q9⟩,HW9.out⟩
    case measure=>simp[intOf];omega
  have hgk:=gE hlt
  obtain⟨b1,off,csy,hA,hb1,hcs,hcell⟩:=HX1.out k x.zL[k] hgk
  subst hA
  generalize x.zL[k]=l at *
  have HG:=hide hgk;clear hgk
  obtain⟨v3,rfl⟩:=T.rd_one hcs
  have d0:=(HB.out.cell hb1).trans (hcell 0 v3 rfl)
  rw[Nat.mul_one,Nat.add_zero] at d0
  have R:=hide (show RdI wr v3 l from Rd.below (T.yT.1 hcs) HB.out);clear hcs hcell
  have hq1:b1<wr.heap.size:=lL hb1 HB.out.size
  obtain⟨ua,uc,rfl,_,_,_⟩:=R.out.open_
  have n1:((k:Int)<(x.zL.length:Int)):=by omega
  cases a8:sigB l
  ·go_wp2_with (go_at_call 123;refine(c_l03Ok _ l _ R.out).mono ?_;rintro e w' ⟨rfl,rfl⟩;rw[a8])
   go_ret
   exact⟨yI (yZ fun h=>by have h1:sigB l=true:=h.sources.each k l HG.out;rw[a8] at h1;exact absurd h1 (by simp)).symm,HB.out⟩
  ·go_wp2_with (go_at_call 123;refine(c_l03Ok _ l _ R.out).mono ?_;rintro e w' ⟨rfl,rfl⟩;rw[a8])
   go_roundw
   case rel=>exact⟨k+1,by omega,by go_num,HS.out.step HG.out a8,HW.out⟩
   case measure=>simp[intOf];omega
end
section
open Go.RowKit
end
section
open Go.RowKit
theorem vV (n:Nat) (w:World) (hn:n≤1048576):Calls Tryz.prog 193 #[.int .i64 (n:Int)] w fun e w'=>e= .returned (.slice (some ⟨w.heap.size,0,none⟩) n n)∧OwI 2 w' w.heap.size (.slice (some ⟨w.heap.size,0,none⟩) n n) (List.replicate n 0)∧Below w.heap.size w w':=by
 obtain⟨i0,hi,hz0,hz1,hz2⟩:=info_parts info_i64
 go_enter Tryz.func193,Tryz.ntmps193
 go_wp2_with (at_make;refine wpList_make_full _ rfl _ _ _ rfl w.heap.size 2 i0 _ 1 Tryz.underlying26 hi hz0 hz1 .i64 .i64 _ _ n rfl rfl rfl rfl (by rw[hz2];omega) (by unfold maxLen;omega) (Nat.le_refl _) ?_;intro w1 hown1 hg1)
 have ho1:OwI 2 w1 w.heap.size _ _:=OwI.made _ w1 (n:=n) hg1.size (by unfold maxLen;omega) 0 hown1
 have hb1:Below w.heap.size w w1:=(Below.refl _ _).grown hg1 (Nat.le_refl _) (by simp)
 clear hown1 hg1
 have HO:=hide ho1;have HB:=hide hb1;clear ho1 hb1
 go_wp2
 go_ret
 exact⟨rfl,HO.out,HB.out⟩
/-- The sample at a place: 0 outside. -/
def wR (xs:List Int) (i:Int):Int:=if 0≤i∧i<(xs.length:Int) then xs.getD i.toNat 0 else 0
theorem smpAt_in {xs:List Int} {k:Nat} {x:Int} (h:xs[k]?=some x):wR xs (k:Int)=x:=by
 have hl:=(List.getElem?_eq_some_iff.1 h).1
 unfold wR
 rw[if_pos ⟨by omega,by omega⟩,Int.toNat_natCast,List.getD_eq_getElem?_getD,h]
 rfl
theorem smpAt_out {xs:List Int} {i:Int} (h: ¬ (0≤i∧i<(xs.length:Int))):wR xs i=0:=by unfold wR;rw[if_neg h]
def cutL (xs:List Int) (from_:Int) (n:Nat):List Int:=(List.range n).map fun(k:Nat)=>wR xs (from_+(k:Int))
theorem length_cutL (xs:List Int) (f:Int) (n:Nat):(cutL xs f n).length=n:=by simp[cutL]
theorem cutL_snoc (xs:List Int) (f:Int) (n:Nat):cutL xs f (n+1)=cutL xs f n++ [wR xs (f+(n:Int))]:=by
 unfold cutL;rw[List.range_succ,List.map_append];rfl
/-- A cut half laid: zeros behind. -/
def cutZ (xs:List Int) (f:Int) (n k:Nat):List Int:=cutL xs f k++List.replicate (n - k) 0
theorem length_cutZ {xs:List Int} {f:Int} {n k:Nat} (h:k≤n):(cutZ xs f n k).length=n:=by simp[cutZ,length_cutL];omega
theorem cutZ_set {xs:List Int} {f:Int} {n k:Nat} (h:k<n):(cutZ xs f n k).set k (wR xs (f+(k:Int)))=cutZ xs f n (k+1):=by
 unfold cutZ
 rw[List.set_append_right _ _ (by rw[length_cutL];exact Nat.le_refl _),length_cutL,Nat.sub_self,cutL_snoc,List.append_assoc]
 congr 1
 rw[show n - k=(n - (k+1))+1 by omega,List.replicate_succ]
 rfl
theorem cutZ_full (xs:List Int) (f:Int) (n:Nat):cutZ xs f n n=cutL xs f n:=by simp[cutZ]
theorem cutZ_none (xs:List Int) (f:Int) (n:Nat):cutZ xs f n 0=List.replicate n 0:=by simp[cutZ,cutL]
theorem c_at (v:Value) (xs:List Int) (i:Int) (w:World) (h0:0≤i) (hr:RdI w v xs):Calls Tryz.prog 198 #[v,.int .i64 i] w fun e w'=>e= .returned (.int .i64 (wR xs i))∧w=w':=by
 have HR:=hide hr
 obtain⟨A,cap,rfl,hl,hc,hx⟩:=hr.open_
 have HX:=hide hx;clear hx hr
 obtain⟨k,rfl⟩: ∃ k:Nat,i=(k:Int):=⟨i.toNat,by omega⟩
 have SZ:True:=trivial
 by_cases hlt:k<xs.length
 ·have hgk:=gE hlt
  obtain⟨b,off,rfl,hb,hcell⟩:=HX.out k xs[k] hgk
  generalize xs[k]=y at *
  have HG:=hide hgk;clear hgk
  have n1:((k:Int)<(xs.length:Int)):=by omega
  have HS:=hide (smpAt_in HG.out)
  go_enter Tryz.func198,Tryz.ntmps198
  go_wp2_with (go_at_call 86;refine(vP _ xs _ HR.out).mono ?_;rintro e w' ⟨rfl,rfl⟩)
  go_ret
  exact⟨xZ HS.out.symm,rfl⟩
 ·have HS:=hide (smpAt_out (xs:=xs) (i:=(k:Int)) (by omega))
  go_enter Tryz.func198,Tryz.ntmps198
  go_wp2_with (go_at_call 86;refine(vP _ xs _ HR.out).mono ?_;rintro e w' ⟨rfl,rfl⟩)
  go_ret
  exact⟨xZ HS.out.symm,rfl⟩
theorem c_l03At (v:Value) (xs:List Int) (i:Int) (w:World) (hr:RdI w v xs):Calls Tryz.prog 189 #[v,.int .i64 i] w fun e w'=>e= .returned (.int .i64 (wR xs i))∧w=w':=by
 obtain⟨A,cap,rfl,hl,hc,hx⟩:=hr.open_
 have HX:=hide hx;clear hx hr
 by_cases hin:0≤i∧i<(xs.length:Int)
 ·have hq:inB i 0 ((xs.length:Int) - 1)=true:=xC.2 (by omega)
  obtain⟨k,rfl⟩: ∃ k:Nat,i=(k:Int):=⟨i.toNat,by omega⟩
  have hlt:k<xs.length:=by omega
  have hgk:=gE hlt
  obtain⟨b,off,rfl,hb,hcell⟩:=HX.out k xs[k] hgk
  generalize xs[k]=y at *
  have HG:=hide hgk;clear hgk
  have n1:((k:Int)<(xs.length:Int)):=by omega
  have HS:=hide (smpAt_in HG.out)
  clear hin
  go_enter Tryz.func189,Tryz.ntmps189
  go_wp2_with (go_at_call 87;refine(xX _ _ _ _).mono ?_;rintro e w' ⟨rfl,rfl⟩)
  go_ret
  exact⟨xZ HS.out.symm,rfl⟩
 ·have hq:inB i 0 ((xs.length:Int) - 1)=false:=inB_false.2 (by omega)
  have HS:=hide (smpAt_out (xs:=xs) hin)
  clear hin
  go_enter Tryz.func189,Tryz.ntmps189
  go_wp2_with (go_at_call 87;refine(xX _ _ _ _).mono ?_;rintro e w' ⟨rfl,rfl⟩)
  go_ret
  exact⟨xZ HS.out.symm,rfl⟩
theorem c_l03Slice (v:Value) (xs:List Int) (f:Int) (n:Nat) (w:World) (h0: -1048576≤f) (h1:f≤1048576) (hn:n≤1048576) (hr:RdI w v xs):Calls Tryz.prog 128 #[v,.int .i64 f,.int .i64 (n:Int)] w fun e w'=> ∃ v',e= .returned v'∧OwI 2 w' w.heap.size v' (cutL xs f n)∧Below w.heap.size w w':=by
 have HR:=hide hr;have HN0:=hide (vC w);have HA0:=hide (show Below w.heap.size w (w.alloc (.cells #[] 2)) from(Below.refl _ _).alloc (Nat.le_refl _) _)
 obtain⟨A,cap,rfl,hl,hc,hx⟩:=hr.open_
 clear hx hr
 go_enter Tryz.func128,Tryz.ntmps128
 go_wp2
 go_loopw [7,8] (fun r i wr=> ∃ k:Nat,k≤n∧i= .int .i64 k∧OwI 2 wr w.heap.size r (cutL xs f k)∧Below w.heap.size w wr) (fun _ i _=>n - (intOf i).toNat)
 case atStart=>exact⟨0,Nat.zero_le _,rfl,HN0.out,HA0.out⟩
 case round=>
  obtain⟨k,hk,rfl,ho,hbw⟩:=hrel
  have HO:=hide ho;have HB:=hide hbw;have hsz:=hbw.size;clear ho hbw
  by_cases hlt:k<n
  ·have e1:IntKind.i64.wrap (f+(k:Int))=f+(k:Int):=IntWalk.i64_in _ (by omega)
   have hll:(cutL xs f k).length+1≤17592186044416:=by rw[length_cutL];omega
   go_wp2_with (first|(go_at_call 189;refine(c_l03At _ xs _ _ (Rd.below HR.out HB.out)).mono ?_;rintro e w' ⟨rfl,rfl⟩)|(at_builtin;refine uQ (n:=wR xs (f+(k:Int))) rfl _ _ rfl rfl HO.out rfl hll hsz ?_;intro v8 w8 ho8 hg8 hv8;have HO8:=hide ho8;have HB8:=hide (HB.out.grown hg8 hsz (fun j hj=>(HO.out.lt j hj).1));clear ho8 hg8 hv8))
   go_roundw
   case rel=>exact⟨k+1,by omega,by go_num,by rw[cutL_snoc];exact HO8.out,HB8.out⟩
   case measure=>simp[intOf];omega
  ·obtain rfl:k=n:=by omega
   go_wp2
   go_ret
   exact⟨_,rfl,HO.out,HB.out⟩
theorem c_slice (v:Value) (xs:List Int) (f:Int) (n:Nat) (w:World) (h0:0≤f) (h1:f≤1048576) (hn:n≤1048576) (hr:RdI w v xs):Calls Tryz.prog 133 #[v,.int .i64 f,.int .i64 (n:Int)] w fun e w'=> ∃ v',e= .returned v'∧OwI 2 w' w.heap.size v' (cutL xs f n)∧Below w.heap.size w w':=by
 have HR:=hide hr
 obtain⟨A,cap,rfl,hl,hc,hx⟩:=hr.open_
 clear hx hr
 go_enter Tryz.func133,Tryz.ntmps133
 go_wp2_with fail
 refine(vV n _ hn).mono ?_;rintro e w1 ⟨rfl,ho1,hb1⟩
 have HO1:=hide (show OwI 2 w1 w.heap.size (.slice (some ⟨w.heap.size,0,none⟩) n n) (cutZ xs f n 0) by rw[cutZ_none];exact ho1)
 have HB1:=hide hb1;clear ho1 hb1
 go_wp2
 go_loopw [13] (fun i wr=> ∃ k:Nat,k≤n∧i= .int .i64 k∧OwI 2 wr w.heap.size (.slice (some ⟨w.heap.size,0,none⟩) n n) (cutZ xs f n k)∧Below w.heap.size w wr) (fun i _=>n - (intOf i).toNat)
 case atStart=>exact⟨0,Nat.zero_le _,rfl,HO1.out,HB1.out⟩
 case round=>
  obtain⟨k,hk,rfl,ho,hbw⟩:=hrel
  have HO:=hide ho;have HB:=hide hbw;have hsz:=hbw.size;clear ho hbw
  by_cases hlt:k<n
  ·have e1:IntKind.i64.wrap (f+(k:Int))=f+(k:Int):=IntWalk.i64_in _ (by omega)
   have fr:=HO.out.freeN k
   have n1:((k:Int)<(n:Int)):=by omega
   have hlk:k<(cutZ xs f n k).length:=by rw[length_cutZ hk];exact hlt
   have hck:=hide (HO.out.cellN (gE hlk))
   have ck:=hck.out
   generalize (cutZ xs f n k)[k]=z0 at *
   go_wp2_with (go_at_call 198;refine(c_at _ xs _ _ (by omega) (Rd.below HR.out HB.out)).mono ?_;rintro e w' ⟨rfl,rfl⟩)
   have HO2:=hide (HO.out.setN k (wR xs (f+(k:Int))))
   have HG2:=hide (HO.out.grownN k (.int .i64 (wR xs (f+(k:Int)))))
   go_roundw
   case rel=>exact⟨k+1,by omega,by go_num,by rw[←cutZ_set hlt];exact HO2.out,HB.out.grown HG2.out hsz (fun j hj=>by injection hj with hj;omega)⟩
   case measure=>simp[intOf];omega
  ·obtain rfl:k=n:=by omega
   go_wp2
   go_ret
   exact⟨_,rfl,by rw[←cutZ_full];exact HO.out,HB.out⟩
end
end Go.Proofs.YtoibekfhepnedaaGreat
