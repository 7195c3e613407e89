/- Contracts: valid sessions, by the reference. Contracts: valid caches, both sides. -/
import Derived.Test.YtoibekfhepnedaaGreatQAlExactMix
set_option linter.unusedVariables false
set_option linter.unusedSimpArgs false
set_option maxHeartbeats 2000000
set_option maxRecDepth 20000
namespace Go.Proofs.YtoibekfhepnedaaGreat
section
open Go.RowKit
theorem wAz {x:xO} :x=zHz↔x.zS=0∧x.zV.length=0∧x.zC.length=0∧x.zT.length=0:=by
 obtain⟨a,b,c,d⟩:=x;simp[zHz]
theorem c_l27None (x:xO) (b o:Nat) (w:World) (h:T.at w x.fs b o):Calls Tryz.prog 125 #[.pointer (some ⟨b,o,none⟩)] w fun e w'=>e= .returned (.bool (tf (x=zHz)))∧Below w.heap.size w w':=by
 have HAT:=xN h;obtain⟨hlt0,cs,hr,hc⟩:=h;obtain⟨v1,v2,v3,rfl,h1,h2,h3⟩:=xO.yV hr;clear hr;obtain⟨va1,vc1,rfl,vl1,vm1,R1,HX1⟩:=oG h1;clear h1;obtain⟨va2,vc2,rfl,vl2,vm2,R2,HX2⟩:=oG h2;clear h2;obtain⟨va3,vc3,rfl,vl3,vm3,R3,HX3⟩:=oI h3;clear h3;have HL:=xN hlt0;have HCC:=xN hc;have HB0:=xN (Below.refl w.heap.size w);clear hlt0 hc;have p0:w.cell? ⟨b,o,none⟩=some (.int .i64 x.zS):=(HB0.out.cell HL.out).trans (HCC.out 0 _ rfl);have p1:w.cell? ⟨b,o+1,none⟩=some (.slice va1 x.zV.length vc1):=(HB0.out.cell HL.out).trans (HCC.out 1 _ rfl);have p2:w.cell? ⟨b,o+2,none⟩=some (.slice va2 x.zC.length vc2):=(HB0.out.cell HL.out).trans (HCC.out 2 _ rfl);have p3:w.cell? ⟨b,o+3,none⟩=some (.slice va3 x.zT.length vc3):=(HB0.out.cell HL.out).trans (HCC.out 3 _ rfl);have lb:b<w.heap.size:=zW HL.out HB0.out.size
 go_enter Tryz.func125,Tryz.ntmps125
 by_cases q0:x.zS=0
 rotate_left
 ·have b0:(x.zS == 0)=false:=yZ zM;have Q0:=xN q0;clear q0
  go_wp2;go_ret
  exact⟨yP (xH fun h=>Q0.out (wAz.1 h).1).symm,HB0.out⟩
 have b0:(x.zS == 0)=true:=xA zM;have Q0:=xN q0;clear q0;by_cases q1:x.zV.length=0
 rotate_left
 ·have b1:((x.zV.length:Int) == 0)=false:=yZ zM;have Q1:=xN q1;clear q1
  go_wp2;go_ret
  exact⟨yP (xH fun h=>Q1.out (wAz.1 h).2.1).symm,HB0.out⟩
 have b1:((x.zV.length:Int) == 0)=true:=xA zM;have Q1:=xN q1;clear q1;by_cases q2:x.zC.length=0
 rotate_left
 ·have b2:((x.zC.length:Int) == 0)=false:=yZ zM;have Q2:=xN q2;clear q2
  go_wp2;go_ret
  exact⟨yP (xH fun h=>Q2.out (wAz.1 h).2.2.1).symm,HB0.out⟩
 have b2:((x.zC.length:Int) == 0)=true:=xA zM;have Q2:=xN q2;clear q2;by_cases q3:x.zT.length=0
 rotate_left
 ·have b3:((x.zT.length:Int) == 0)=false:=yZ zM;have Q3:=xN q3;clear q3
  go_wp2;go_ret
  exact⟨yP (xH fun h=>Q3.out (wAz.1 h).2.2.2).symm,HB0.out⟩
 have b3:((x.zT.length:Int) == 0)=true:=xA zM;have Q3:=xN q3;clear q3;go_wp2;go_ret
 exact⟨yP (xI (wAz.2 ⟨Q0.out,Q1.out,Q2.out,Q3.out⟩)).symm,HB0.out⟩
theorem zJy (x:xS) (b o:Nat) (w:World) (hs:x.small) (h:T.at w x.fs b o):Calls Tryz.prog 54 #[.pointer (some ⟨b,o,none⟩)] w fun e w'=>e= .returned (.bool (tf (vO x)))∧Below w.heap.size w w':=by
 have HAT:=xN h;obtain⟨hlt0,cs,hr,hc⟩:=h;obtain⟨v1,v2,v3,v4,v5,rfl,h1,h2,h3,h4,h5⟩:=xS.yV hr;clear hr;obtain⟨va1,vc1,rfl,vl1,vm1,R1,HX1⟩:=oG h1;clear h1;obtain⟨va2,vc2,rfl,vl2,vm2,R2,HX2⟩:=oG h2;clear h2;obtain⟨va3,vc3,rfl,vl3,vm3,R3,HX3⟩:=oI h3;clear h3;obtain⟨va4,vc4,rfl,vl4,vm4,R4,HX4⟩:=oG h4;clear h4;obtain⟨va5,vc5,rfl,vl5,vm5,R5,HX5⟩:=oG h5;clear h5;have HL:=xN hlt0;have HCC:=xN hc;have HB0:=xN (Below.refl w.heap.size w);clear hlt0 hc;have hn5:x.zH.zD.length≤1048576:=hs.2.2.2.2.1;have HEF:=xN hs.2.2.2.1.2;clear hs;have HATM:=xN (show T.at w x.zH.fs b (o+5) from T.at_sub [.int .i64 x.zF,(.slice va1 x.zI.length vc1),(.slice va2 x.zL.length vc2),(.slice va3 x.zX.length vc3),(.slice va4 x.zO.length vc4)] [(.slice va5 x.zH.zD.length vc5)] [] HL.out HCC.out (wG.rd_mk R5.out));have p0:w.cell? ⟨b,o,none⟩=some (.int .i64 x.zF):=(HB0.out.cell HL.out).trans (HCC.out 0 _ rfl);have p1:w.cell? ⟨b,o+1,none⟩=some (.slice va1 x.zI.length vc1):=(HB0.out.cell HL.out).trans (HCC.out 1 _ rfl);have p2:w.cell? ⟨b,o+2,none⟩=some (.slice va2 x.zL.length vc2):=(HB0.out.cell HL.out).trans (HCC.out 2 _ rfl);have p3:w.cell? ⟨b,o+3,none⟩=some (.slice va3 x.zX.length vc3):=(HB0.out.cell HL.out).trans (HCC.out 3 _ rfl);have p4:w.cell? ⟨b,o+4,none⟩=some (.slice va4 x.zO.length vc4):=(HB0.out.cell HL.out).trans (HCC.out 4 _ rfl);have p5:w.cell? ⟨b,o+5,none⟩=some (.slice va5 x.zH.zD.length vc5):=(HB0.out.cell HL.out).trans (HCC.out 5 _ rfl);have lb:b<w.heap.size:=zW HL.out HB0.out.size
 go_enter Tryz.func54,Tryz.ntmps54
 go_wp2;by_cases q1:inB x.zF 0 1000=true
 rotate_left
 ·have q1':inB x.zF 0 1000=false:=(by simpa using q1)
  have g0:=yN p0;have g1:=yN p1;have g2:=yN p2;have g3:=yN p3;have g4:=yN p4;have g5:=yN p5;refine rB ?_
  repeat(first|go_big_quiet_skip|(go_big_quiet_want;go_big_quiet_op;first|go_big_quiet_on|(apply Exists.intro;refine⟨fun _=>?_,?_⟩;(· (first|(go_at_call 87;exact Calls.yR ((wI _ _ _ _).mono (fun e w' h=>by(first|rw[q1'] at h|skip);exact h)))|(go_at_call 122;exact Calls.yS ((vUz x.zH _ _ _ hn5 (T.at_below HATM.out (yO w _))).mono (fun e w' h=>by(first|rw[a4] at h|skip);exact h)))));go_big_quiet_on)))
  refine wpQuiet_nil ?_;rintro w9 ⟨uu,rfl⟩;have hb9:=yO w uu;generalize bel w uu=w9 at *;have HB9:=xN (yQ HB0.out HB0.out.size hb9);clear g0 g1 g2 g3 g4 g5;go_wp2;go_ret
  exact⟨yP (xH fun h=>q1 h.length).symm,HB9.out⟩
 have q1':=q1;by_cases q2:x.zI.length≤6
 rotate_left
 ·have d2:decide ((6:Int)<(x.zI.length:Int))=true:=decide_eq_true zM
  have g0:=yN p0;have g1:=yN p1;have g2:=yN p2;have g3:=yN p3;have g4:=yN p4;have g5:=yN p5;refine rB ?_
  repeat(first|go_big_quiet_skip|(go_big_quiet_want;go_big_quiet_op;first|go_big_quiet_on|(apply Exists.intro;refine⟨fun _=>?_,?_⟩;(· (first|(go_at_call 87;exact Calls.yR ((wI _ _ _ _).mono (fun e w' h=>by(first|rw[q1'] at h|skip);exact h)))|(go_at_call 122;exact Calls.yS ((vUz x.zH _ _ _ hn5 (T.at_below HATM.out (yO w _))).mono (fun e w' h=>by(first|rw[a4] at h|skip);exact h)))));go_big_quiet_on)))
  refine wpQuiet_nil ?_;rintro w9 ⟨uu,rfl⟩;have hb9:=yO w uu;generalize bel w uu=w9 at *;have HB9:=xN (yQ HB0.out HB0.out.size hb9);clear g0 g1 g2 g3 g4 g5;go_wp2;go_ret
  exact⟨yP (xH fun h=>q2 h.sources.few).symm,HB9.out⟩
 have Q2:=xN q2;have d2:decide ((6:Int)<(x.zI.length:Int))=false:=decide_eq_false zM;by_cases q3:x.zL.length≤6
 rotate_left
 ·have d3:decide ((6:Int)<(x.zL.length:Int))=true:=decide_eq_true zM
  have g0:=yN p0;have g1:=yN p1;have g2:=yN p2;have g3:=yN p3;have g4:=yN p4;have g5:=yN p5;refine rB ?_
  repeat(first|go_big_quiet_skip|(go_big_quiet_want;go_big_quiet_op;first|go_big_quiet_on|(apply Exists.intro;refine⟨fun _=>?_,?_⟩;(· (first|(go_at_call 87;exact Calls.yR ((wI _ _ _ _).mono (fun e w' h=>by(first|rw[q1'] at h|skip);exact h)))|(go_at_call 122;exact Calls.yS ((vUz x.zH _ _ _ hn5 (T.at_below HATM.out (yO w _))).mono (fun e w' h=>by(first|rw[a4] at h|skip);exact h)))));go_big_quiet_on)))
  refine wpQuiet_nil ?_;rintro w9 ⟨uu,rfl⟩;have hb9:=yO w uu;generalize bel w uu=w9 at *;have HB9:=xN (yQ HB0.out HB0.out.size hb9);clear g0 g1 g2 g3 g4 g5;go_wp2;go_ret
  exact⟨yP (xH fun h=>q3 h.few).symm,HB9.out⟩
 have Q3:=xN q3;have d3:decide ((6:Int)<(x.zL.length:Int))=false:=decide_eq_false zM;by_cases q4:uP x.zH
 rotate_left
 ·have a4:=xH q4;have Q4:=xN q4;clear q4
  have g0:=yN p0;have g1:=yN p1;have g2:=yN p2;have g3:=yN p3;have g4:=yN p4;have g5:=yN p5;refine rB ?_
  repeat(first|go_big_quiet_skip|(go_big_quiet_want;go_big_quiet_op;first|go_big_quiet_on|(apply Exists.intro;refine⟨fun _=>?_,?_⟩;(· (first|(go_at_call 87;exact Calls.yR ((wI _ _ _ _).mono (fun e w' h=>by(first|rw[q1'] at h|skip);exact h)))|(go_at_call 122;exact Calls.yS ((vUz x.zH _ _ _ hn5 (T.at_below HATM.out (yO w _))).mono (fun e w' h=>by(first|rw[a4] at h|skip);exact h)))));go_big_quiet_on)))
  refine wpQuiet_nil ?_;rintro w9 ⟨uu,rfl⟩;have hb9:=yO w uu;generalize bel w uu=w9 at *;have HB9:=xN (yQ HB0.out HB0.out.size hb9);clear g0 g1 g2 g3 g4 g5;go_wp2;go_ret
  exact⟨yP (xH fun h=>Q4.out h.mixer).symm,HB9.out⟩
 have a4:=xI q4;have Q4:=xN q4;clear q4;by_cases q5:x.zX.length=x.zL.length
 rotate_left
 ·have b5:((x.zX.length:Int) != (x.zL.length:Int))=true:=yQz zM;have Q5:=xN q5;clear q5
  have g0:=yN p0;have g1:=yN p1;have g2:=yN p2;have g3:=yN p3;have g4:=yN p4;have g5:=yN p5;refine rB ?_
  repeat(first|go_big_quiet_skip|(go_big_quiet_want;go_big_quiet_op;first|go_big_quiet_on|(apply Exists.intro;refine⟨fun _=>?_,?_⟩;(· (first|(go_at_call 87;exact Calls.yR ((wI _ _ _ _).mono (fun e w' h=>by(first|rw[q1'] at h|skip);exact h)))|(go_at_call 122;exact Calls.yS ((vUz x.zH _ _ _ hn5 (T.at_below HATM.out (yO w _))).mono (fun e w' h=>by(first|rw[a4] at h|skip);exact h)))));go_big_quiet_on)))
  refine wpQuiet_nil ?_;rintro w9 ⟨uu,rfl⟩;have hb9:=yO w uu;generalize bel w uu=w9 at *;have HB9:=xN (yQ HB0.out HB0.out.size hb9);clear g0 g1 g2 g3 g4 g5;go_wp2;go_ret
  exact⟨yP (xH fun h=>Q5.out h.feed).symm,HB9.out⟩
 have b5:((x.zX.length:Int) != (x.zL.length:Int))=false:=yRz zM;have Q5:=xN q5;clear q5;by_cases q7:x.zO.length=x.zH.zD.length
 rotate_left
 ·have b7:((x.zO.length:Int) != (x.zH.zD.length:Int))=true:=yQz zM;have Q7:=xN q7;clear q7
  have g0:=yN p0;have g1:=yN p1;have g2:=yN p2;have g3:=yN p3;have g4:=yN p4;have g5:=yN p5;refine rB ?_
  repeat(first|go_big_quiet_skip|(go_big_quiet_want;go_big_quiet_op;first|go_big_quiet_on|(apply Exists.intro;refine⟨fun _=>?_,?_⟩;(· (first|(go_at_call 87;exact Calls.yR ((wI _ _ _ _).mono (fun e w' h=>by(first|rw[q1'] at h|skip);exact h)))|(go_at_call 122;exact Calls.yS ((vUz x.zH _ _ _ hn5 (T.at_below HATM.out (yO w _))).mono (fun e w' h=>by(first|rw[a4] at h|skip);exact h)))));go_big_quiet_on)))
  refine wpQuiet_nil ?_;rintro w9 ⟨uu,rfl⟩;have hb9:=yO w uu;generalize bel w uu=w9 at *;have HB9:=xN (yQ HB0.out HB0.out.size hb9);clear g0 g1 g2 g3 g4 g5;go_wp2;go_ret
  exact⟨yP (xH fun h=>Q7.out h.effect).symm,HB9.out⟩
 have b7:((x.zO.length:Int) != (x.zH.zD.length:Int))=false:=yRz zM;have Q7:=xN q7;clear q7;have g0:=yN p0;have g1:=yN p1;have g2:=yN p2;have g3:=yN p3;have g4:=yN p4;have g5:=yN p5;refine rB ?_
 repeat(first|go_big_quiet_skip|(go_big_quiet_want;go_big_quiet_op;first|go_big_quiet_on|(apply Exists.intro;refine⟨fun _=>?_,?_⟩;(· (first|(go_at_call 87;exact Calls.yR ((wI _ _ _ _).mono (fun e w' h=>by(first|rw[q1'] at h|skip);exact h)))|(go_at_call 122;exact Calls.yS ((vUz x.zH _ _ _ hn5 (T.at_below HATM.out (yO w _))).mono (fun e w' h=>by(first|rw[a4] at h|skip);exact h)))));go_big_quiet_on)))
 refine wpQuiet_nil ?_;rintro w9 ⟨uu,rfl⟩;have hb9:=yO w uu;generalize bel w uu=w9 at *;have HB9:=xN (yQ HB0.out HB0.out.size hb9);clear g0 g1 g2 g3 g4 g5;clear hb9 p0 p1 p2 p3 p4 p5 lb a4 b5 b7 d2 d3;have p0:w9.cell? ⟨b,o,none⟩=some (.int .i64 x.zF):=(HB9.out.cell HL.out).trans (HCC.out 0 _ rfl);have p1:w9.cell? ⟨b,o+1,none⟩=some (.slice va1 x.zI.length vc1):=(HB9.out.cell HL.out).trans (HCC.out 1 _ rfl);have p2:w9.cell? ⟨b,o+2,none⟩=some (.slice va2 x.zL.length vc2):=(HB9.out.cell HL.out).trans (HCC.out 2 _ rfl);have p3:w9.cell? ⟨b,o+3,none⟩=some (.slice va3 x.zX.length vc3):=(HB9.out.cell HL.out).trans (HCC.out 3 _ rfl);have p4:w9.cell? ⟨b,o+4,none⟩=some (.slice va4 x.zO.length vc4):=(HB9.out.cell HL.out).trans (HCC.out 4 _ rfl);have p5:w9.cell? ⟨b,o+5,none⟩=some (.slice va5 x.zH.zD.length vc5):=(HB9.out.cell HL.out).trans (HCC.out 5 _ rfl);have lb:b<w9.heap.size:=zW HL.out HB9.out.size;go_wp2;clear p0 p1 p2 p3 p4 p5 lb
 go_loopw [3] (fun i wr=> ∃ k:Nat,k≤x.zI.length∧i= .int .i64 k∧vP x.zI (fun _ l=>wFz l=true) k∧Below w9.heap.size w9 wr) (fun i _=>x.zI.length - (intOf i).toNat)
 case atStart=>exact⟨0,Nat.zero_le _,rfl,vP.zero,zR⟩
 case round=>
  obtain⟨k,hk,rfl,hs,hbw⟩:=hrel;have HS:=xN hs;have HW:=xN hbw;have HB:=xN (yQ HB9.out HB9.out.size hbw);clear hs hbw;have p0:wr.cell? ⟨b,o,none⟩=some (.int .i64 x.zF):=(HB.out.cell HL.out).trans (HCC.out 0 _ rfl);have p1:wr.cell? ⟨b,o+1,none⟩=some (.slice va1 x.zI.length vc1):=(HB.out.cell HL.out).trans (HCC.out 1 _ rfl);have p2:wr.cell? ⟨b,o+2,none⟩=some (.slice va2 x.zL.length vc2):=(HB.out.cell HL.out).trans (HCC.out 2 _ rfl);have p3:wr.cell? ⟨b,o+3,none⟩=some (.slice va3 x.zX.length vc3):=(HB.out.cell HL.out).trans (HCC.out 3 _ rfl);have p4:wr.cell? ⟨b,o+4,none⟩=some (.slice va4 x.zO.length vc4):=(HB.out.cell HL.out).trans (HCC.out 4 _ rfl);have p5:wr.cell? ⟨b,o+5,none⟩=some (.slice va5 x.zH.zD.length vc5):=(HB.out.cell HL.out).trans (HCC.out 5 _ rfl);have lb:b<wr.heap.size:=zW HL.out HB.out.size;by_cases hlt:k<x.zI.length
  rotate_left
  ·have hall1:=xN (HS.out.all zM);clear HS
   generalize wr=w2 at *;have HB2:=HB;clear HB;go_wp2;clear p0 p1 p2 p3 p4 p5 lb
   go_loopw [4] (fun i wr=> ∃ k:Nat,k≤x.zL.length∧i= .int .i64 k∧vP x.zL (fun i t=>(zWz t∧Each t.zZ fun _ c=>c.yD<(x.zI.length:Int))∧ ∀ f,x.zX[i]?=some f→inB f 0 ((x.zH.zD.length:Int) - 1)=true) k∧Below w2.heap.size w2 wr) (fun i _=>x.zL.length - (intOf i).toNat)
   case atStart=>exact⟨0,Nat.zero_le _,rfl,vP.zero,zR⟩
   case round=>
    obtain⟨k,hk,rfl,hs,hbw⟩:=hrel;have HS:=xN hs;have HW:=xN hbw;have HB:=xN (yQ HB2.out HB2.out.size hbw);clear hs hbw;have p0:wr.cell? ⟨b,o,none⟩=some (.int .i64 x.zF):=(HB.out.cell HL.out).trans (HCC.out 0 _ rfl);have p1:wr.cell? ⟨b,o+1,none⟩=some (.slice va1 x.zI.length vc1):=(HB.out.cell HL.out).trans (HCC.out 1 _ rfl);have p2:wr.cell? ⟨b,o+2,none⟩=some (.slice va2 x.zL.length vc2):=(HB.out.cell HL.out).trans (HCC.out 2 _ rfl);have p3:wr.cell? ⟨b,o+3,none⟩=some (.slice va3 x.zX.length vc3):=(HB.out.cell HL.out).trans (HCC.out 3 _ rfl);have p4:wr.cell? ⟨b,o+4,none⟩=some (.slice va4 x.zO.length vc4):=(HB.out.cell HL.out).trans (HCC.out 4 _ rfl);have p5:wr.cell? ⟨b,o+5,none⟩=some (.slice va5 x.zH.zD.length vc5):=(HB.out.cell HL.out).trans (HCC.out 5 _ rfl);have lb:b<wr.heap.size:=zW HL.out HB.out.size;by_cases hlt:k<x.zL.length
    rotate_left
    ·have hall2:=xN (HS.out.all zM);clear HS
     generalize wr=w3 at *;have HB3:=HB;clear HB;go_wp2;clear p0 p1 p2 p3 p4 p5 lb
     go_loopw [5] (fun i wr=> ∃ k:Nat,k≤x.zO.length∧i= .int .i64 k∧vP x.zO (fun _ p=>vHz p) k∧Below w3.heap.size w3 wr) (fun i _=>x.zO.length - (intOf i).toNat)
     case atStart=>exact⟨0,Nat.zero_le _,rfl,vP.zero,zR⟩
     case round=>
      obtain⟨k,hk,rfl,hs,hbw⟩:=hrel;have HS:=xN hs;have HW:=xN hbw;have HB:=xN (yQ HB3.out HB3.out.size hbw);clear hs hbw;have p0:wr.cell? ⟨b,o,none⟩=some (.int .i64 x.zF):=(HB.out.cell HL.out).trans (HCC.out 0 _ rfl);have p1:wr.cell? ⟨b,o+1,none⟩=some (.slice va1 x.zI.length vc1):=(HB.out.cell HL.out).trans (HCC.out 1 _ rfl);have p2:wr.cell? ⟨b,o+2,none⟩=some (.slice va2 x.zL.length vc2):=(HB.out.cell HL.out).trans (HCC.out 2 _ rfl);have p3:wr.cell? ⟨b,o+3,none⟩=some (.slice va3 x.zX.length vc3):=(HB.out.cell HL.out).trans (HCC.out 3 _ rfl);have p4:wr.cell? ⟨b,o+4,none⟩=some (.slice va4 x.zO.length vc4):=(HB.out.cell HL.out).trans (HCC.out 4 _ rfl);have p5:wr.cell? ⟨b,o+5,none⟩=some (.slice va5 x.zH.zD.length vc5):=(HB.out.cell HL.out).trans (HCC.out 5 _ rfl);have lb:b<wr.heap.size:=zW HL.out HB.out.size;by_cases hlt:k<x.zO.length
      rotate_left
      ·have hall3:=xN (HS.out.all zM);clear HS
       go_wp2;go_ret
       exact⟨yP (xI ⟨q1,⟨hall1.out,Q2.out⟩,Q3.out,Q4.out,Q5.out,fun i f hf=>by
      have hi:=(List.getElem?_eq_some_iff.1 hf).1;exact xK.1 ((hall2.out i _ (gE (by have:=Q5.out;omega))).2 f hf),Q7.out,fun i t ht=>(hall2.out i t ht).1,hall3.out⟩).symm,HB.out⟩
      have hgk:=gE hlt;obtain⟨b1,off,csy,hA,hb1,hcs,hcell⟩:=HX4.out k x.zO[k] hgk;subst hA;generalize x.zO[k]=y at *;have HG:=xN hgk;clear hgk;have HAy:=xN (T.at_elem (o:=off+k * 4) hb1 (show T.rds w y.fs csy by simpa only[xO.t,T.rd] using hcs) hcell zM);clear hcs hcell;have n1:((k:Int)<(x.zO.length:Int)):=by omega
      have hq1:b1<wr.heap.size:=zW hb1 HB.out.size;have hny:=(HEF.out y (List.mem_of_getElem? HG.out));have hny1:y.zC.length≤1048576:=hny.2.1.1;have hny2:y.zV.length≤1048576:=hny.1.1;clear hny;obtain⟨lty,csy',hry,hcy⟩:=HAy.out;obtain⟨u1,u2,u3,rfl,hu1,hu2,hu3⟩:=xO.yV hry;have Ru1:=xN hu1;obtain⟨ua1,uc1,rfl,ul1,um1,ux1⟩:=T.yU hu1;have HXu1:=xN ux1;clear ux1 hu1;have Ru2:=xN hu2;obtain⟨ua2,uc2,rfl,ul2,um2,ux2⟩:=T.yU hu2;have HXu2:=xN ux2;clear ux2 hu2;have Ru3:=xN (T.xB.1 hu3);obtain⟨ua3,uc3,rfl,ul3,um3,ux3⟩:=Ru3.out.open_;have HXu3:=xN ux3;clear ux3 hu3;have HCy:=xN hcy;clear hry hcy;have cy0:wr.cell? ⟨b1,off+k * 4,none⟩=some (.int .i64 y.zS):=(HB.out.cell lty).trans (HCy.out 0 _ rfl);have cy1:wr.cell? ⟨b1,off+k * 4+1,none⟩=some (.slice ua1 y.zV.length uc1):=(HB.out.cell lty).trans (HCy.out 1 _ rfl);have cy2:wr.cell? ⟨b1,off+k * 4+2,none⟩=some (.slice ua2 y.zC.length uc2):=(HB.out.cell lty).trans (HCy.out 2 _ rfl);have cy3:wr.cell? ⟨b1,off+k * 4+3,none⟩=some (.slice ua3 y.zT.length uc3):=(HB.out.cell lty).trans (HCy.out 3 _ rfl);go_wp2_with fail
      refine(c_l27None y _ _ _ (T.at_below HAy.out HB.out)).mono ?_;rintro e w4 ⟨rfl,hb4⟩;have HB4:=xN (yQ HB.out HB.out.size hb4);have HW4:=xN (yQ HW.out HW.out.size hb4);clear hb4 cy0 cy1 cy2 cy3;clear p0 p1 p2 p3 p4 p5 lb;have p0:w4.cell? ⟨b,o,none⟩=some (.int .i64 x.zF):=(HB4.out.cell HL.out).trans (HCC.out 0 _ rfl);have p1:w4.cell? ⟨b,o+1,none⟩=some (.slice va1 x.zI.length vc1):=(HB4.out.cell HL.out).trans (HCC.out 1 _ rfl);have p2:w4.cell? ⟨b,o+2,none⟩=some (.slice va2 x.zL.length vc2):=(HB4.out.cell HL.out).trans (HCC.out 2 _ rfl);have p3:w4.cell? ⟨b,o+3,none⟩=some (.slice va3 x.zX.length vc3):=(HB4.out.cell HL.out).trans (HCC.out 3 _ rfl);have p4:w4.cell? ⟨b,o+4,none⟩=some (.slice (some ⟨b1,off,none⟩) x.zO.length vc4):=(HB4.out.cell HL.out).trans (HCC.out 4 _ rfl);have p5:w4.cell? ⟨b,o+5,none⟩=some (.slice va5 x.zH.zD.length vc5):=(HB4.out.cell HL.out).trans (HCC.out 5 _ rfl);have lb:b<w4.heap.size:=zW HL.out HB4.out.size;have cy0:w4.cell? ⟨b1,off+k * 4,none⟩=some (.int .i64 y.zS):=(HB4.out.cell lty).trans (HCy.out 0 _ rfl);have cy1:w4.cell? ⟨b1,off+k * 4+1,none⟩=some (.slice ua1 y.zV.length uc1):=(HB4.out.cell lty).trans (HCy.out 1 _ rfl);have cy2:w4.cell? ⟨b1,off+k * 4+2,none⟩=some (.slice ua2 y.zC.length uc2):=(HB4.out.cell lty).trans (HCy.out 2 _ rfl);have cy3:w4.cell? ⟨b1,off+k * 4+3,none⟩=some (.slice ua3 y.zT.length uc3):=(HB4.out.cell lty).trans (HCy.out 3 _ rfl);have hq4:b1<w4.heap.size:=zW hb1 HB4.out.size;by_cases q8:y=zHz
      ·rw[xI q8];have Q8:=xN q8;clear q8
       go_wp2
       go_roundw
       case rel=>exact⟨k+1,by omega,by go_num,HS.out.step HG.out (.inl Q8.out),HW4.out⟩
       case measure=>simp[intOf];omega
      rw[xH q8];have Q8:=xN q8;clear q8;by_cases q9:y.zS=1
      rotate_left
      ·have b9:(y.zS != 1)=true:=yQz q9;have Q9:=xN q9;clear q9
       go_wp2;go_ret
       exact⟨yP (xH fun h=>(h.effects k y HG.out).elim Q8.out fun h=>Q9.out h.2.1).symm,HB4.out⟩
      have b9:(y.zS != 1)=false:=yRz q9;have Q9:=xN q9;clear q9;by_cases q10:y.zT.length=1
      rotate_left
      ·have b10:((y.zT.length:Int) != 1)=true:=yQz zM;have Q10:=xN q10;clear q10
       go_wp2;go_ret
       exact⟨yP (xH fun h=>(h.effects k y HG.out).elim Q8.out fun h=>Q10.out h.2.2).symm,HB4.out⟩
      have b10:((y.zT.length:Int) != 1)=false:=yRz zM;have Q10:=xN q10;clear q10;go_wp2_with fail
      refine(c_l07Ok y _ _ _ hny1 hny2 (T.at_below HAy.out HB4.out)).mono ?_;rintro e w5 ⟨rfl,hb5⟩;have HB5:=xN (yQ HB4.out HB4.out.size hb5);have HW5:=xN (yQ HW4.out HW4.out.size hb5);clear hb5;by_cases q11:vN y
      rotate_left
      ·rw[xH q11];have Q11:=xN q11;clear q11
       go_wp2;go_ret
       exact⟨yP (xH fun h=>(h.effects k y HG.out).elim Q8.out fun h=>Q11.out h.1).symm,HB5.out⟩
      rw[xI q11];have Q11:=xN q11;clear q11;go_wp2
      go_roundw
      case rel=>exact⟨k+1,by omega,by go_num,HS.out.step HG.out (.inr ⟨Q11.out,Q9.out,Q10.out⟩),HW5.out⟩
      case measure=>simp[intOf];omega
    have hgk:=gE hlt;obtain⟨b1,off,csy,hA,hb1,hcs,hcell⟩:=HX2.out k x.zL[k] hgk;subst hA;generalize x.zL[k]=y at *;have HG:=xN hgk;clear hgk;have HAy:=xN (T.at_elem (o:=off+k) hb1 (show T.rds w y.fs csy by simpa only[xQ.t,T.rd] using hcs) hcell zM);clear hcs hcell;have n1:((k:Int)<(x.zL.length:Int)):=by omega
    have hltf:k<x.zX.length:=by have:=Q5.out;omega
    have hgf:=gE hltf;obtain⟨b3,off3,hA,hb3,hcf⟩:=HX3.out k x.zX[k] hgf;subst hA;generalize x.zX[k]=fd at *;have HF:=xN hgf;clear hgf;have cf:=(HB.out.cell hb3).trans hcf;have n2:((k:Int)<(x.zX.length:Int)):=by omega
    by_cases q8:zWz y∧Each y.zZ fun _ c=>c.yD<(x.zI.length:Int)
    rotate_left
    ·have b8:=xH q8;have Q8:=xN q8;clear q8
     go_wp2;have g0:=yN p0;have g1:=yN p1;have g2:=yN p2;have g3:=yN p3;have g4:=yN p4;have g5:=yN p5;have g6:=yN cf;refine rB ?_
     repeat(first|go_big_quiet_skip|(go_big_quiet_want;go_big_quiet_op;first|go_big_quiet_on|(apply Exists.intro;refine⟨fun _=>?_,?_⟩;(· (first|(go_at_call 87;exact Calls.yR ((wI _ _ _ _).mono (fun e w' h=>by(first|rw[b9] at h|skip);exact h)))|(go_at_call 124;exact Calls.yS ((yAy y _ _ _ _ zM zM (T.at_below HAy.out (yQ HB.out HB.out.size (yO wr _)))).mono (fun e w' h=>by(first|rw[b8] at h|skip);exact h)))));go_big_quiet_on)))
     refine wpQuiet_nil ?_;rintro w9 ⟨uu,rfl⟩;have hb9:=yO wr uu;generalize bel wr uu=w9 at *;have HB9:=xN (yQ HB.out HB.out.size hb9);clear g0 g1 g2 g3 g4 g5 g6;go_wp2;go_ret
     exact⟨yP (xH fun h=>Q8.out (h.tracks k y HG.out)).symm,HB9.out⟩
    have b8:=xI q8;have Q8:=xN q8;clear q8;by_cases q9:inB fd 0 ((x.zH.zD.length:Int) - 1)=true
    rotate_left
    ·have b9:inB fd 0 ((x.zH.zD.length:Int) - 1)=false:=(by simpa using q9)
     go_wp2;have g0:=yN p0;have g1:=yN p1;have g2:=yN p2;have g3:=yN p3;have g4:=yN p4;have g5:=yN p5;have g6:=yN cf;refine rB ?_
     repeat(first|go_big_quiet_skip|(go_big_quiet_want;go_big_quiet_op;first|go_big_quiet_on|(apply Exists.intro;refine⟨fun _=>?_,?_⟩;(· (first|(go_at_call 87;exact Calls.yR ((wI _ _ _ _).mono (fun e w' h=>by(first|rw[b9] at h|skip);exact h)))|(go_at_call 124;exact Calls.yS ((yAy y _ _ _ _ zM zM (T.at_below HAy.out (yQ HB.out HB.out.size (yO wr _)))).mono (fun e w' h=>by(first|rw[b8] at h|skip);exact h)))));go_big_quiet_on)))
     refine wpQuiet_nil ?_;rintro w9 ⟨uu,rfl⟩;have hb9:=yO wr uu;generalize bel wr uu=w9 at *;have HB9:=xN (yQ HB.out HB.out.size hb9);clear g0 g1 g2 g3 g4 g5 g6;go_wp2;go_ret
     exact⟨yP (xH fun h=>q9 (xK.2 (h.feeds k fd HF.out))).symm,HB9.out⟩
    have b9:=q9;go_wp2;have g0:=yN p0;have g1:=yN p1;have g2:=yN p2;have g3:=yN p3;have g4:=yN p4;have g5:=yN p5;have g6:=yN cf;refine rB ?_
    repeat(first|go_big_quiet_skip|(go_big_quiet_want;go_big_quiet_op;first|go_big_quiet_on|(apply Exists.intro;refine⟨fun _=>?_,?_⟩;(· (first|(go_at_call 87;exact Calls.yR ((wI _ _ _ _).mono (fun e w' h=>by(first|rw[b9] at h|skip);exact h)))|(go_at_call 124;exact Calls.yS ((yAy y _ _ _ _ zM zM (T.at_below HAy.out (yQ HB.out HB.out.size (yO wr _)))).mono (fun e w' h=>by(first|rw[b8] at h|skip);exact h)))));go_big_quiet_on)))
    refine wpQuiet_nil ?_;rintro w9 ⟨uu,rfl⟩;have hb9:=yO wr uu;generalize bel wr uu=w9 at *;have HB9:=xN (yQ HB.out HB.out.size hb9);clear g0 g1 g2 g3 g4 g5 g6;have HW9:=xN (yQ HW.out HW.out.size hb9);clear hb9;go_wp2
    go_roundw
    case rel=>exact⟨k+1,by omega,by go_num,HS.out.step HG.out ⟨Q8.out,fun f hf=>by rw[HF.out] at hf;injection hf with hf;subst hf;exact q9⟩,HW9.out⟩
    case measure=>simp[intOf];omega
  have hgk:=gE hlt;obtain⟨b1,off,csy,hA,hb1,hcs,hcell⟩:=HX1.out k x.zI[k] hgk;subst hA;generalize x.zI[k]=l at *;have HG:=xN hgk;clear hgk;obtain⟨v3,rfl⟩:=T.rd_one hcs;have d0:=(HB.out.cell hb1).trans (hcell 0 v3 rfl);rw[Nat.mul_one,Nat.add_zero] at d0;have R:=xN (show RdI wr v3 l from Rd.below (T.xB.1 hcs) HB.out);clear hcs hcell;have hq1:b1<wr.heap.size:=zW hb1 HB.out.size;obtain⟨ua,uc,rfl,_,_,_⟩:=R.out.open_;have n1:((k:Int)<(x.zI.length:Int)):=by omega
  cases a8:wFz l
  ·go_wp2_with (go_at_call 123;refine(wHz _ l _ R.out).mono ?_;rintro e w' ⟨rfl,rfl⟩;rw[a8])
   go_ret
   exact⟨yP (xH fun h=>by have h1:wFz l=true:=h.sources.each k l HG.out;rw[a8] at h1;exact absurd h1 (by simp)).symm,HB.out⟩
  ·go_wp2_with (go_at_call 123;refine(wHz _ l _ R.out).mono ?_;rintro e w' ⟨rfl,rfl⟩;rw[a8])
   go_roundw
   case rel=>exact⟨k+1,by omega,by go_num,HS.out.step HG.out a8,HW.out⟩
   case measure=>simp[intOf];omega
end
section
open Go.RowKit
theorem c_l00Rises (v:Value) (xs:List Int) (lo hi:Int) (w:World) (hr:RdI w v xs):Calls Tryz.prog 130 #[v,.int .i64 lo,.int .i64 hi] w fun e w'=>e= .returned (.bool (tf (Each xs (fun i x=>inB x lo hi=true∧ ∀ p,0<i→xs[i - 1]?=some p→p<x))))∧Below w.heap.size w w':=by
 obtain⟨A,cap,rfl,hl,hc,hx⟩:=hr.open_;have HX:=xN hx;clear hx hr
 go_enter Tryz.func130,Tryz.ntmps130
 go_wp2
 go_loopw [7] (fun i wr=> ∃ k:Nat,k≤xs.length∧i= .int .i64 k∧vP xs (fun i x=>inB x lo hi=true∧ ∀ p,0<i→xs[i - 1]?=some p→p<x) k∧Below w.heap.size w wr) (fun i _=>xs.length - (intOf i).toNat)
 case atStart=>exact⟨0,Nat.zero_le _,rfl,vP.zero,zR⟩
 case round=>
  obtain⟨k,hk,rfl,hs,hbw⟩:=hrel;have HS:=xN hs;have HB:=xN hbw;clear hs hbw;by_cases hlt:k<xs.length
  rotate_left
  ·have hall:=xN (HS.out.all zM);clear HS
   go_wp2;go_ret
   exact⟨yP (xI hall.out).symm,HB.out⟩
  have hgk:=gE hlt;obtain⟨b,off,rfl,hb,hcell⟩:=HX.out k xs[k] hgk;generalize xs[k]=y at *;have HG:=xN hgk;clear hgk;have cy:=(HB.out.cell hb).trans hcell;have n1:((k:Int)<(xs.length:Int)):=by omega
  have g0:=yN cy;by_cases hk0:k=0
  ·have d0:decide (0<k)=false:=decide_eq_false zM
   have K0:=xN hk0;clear hk0
   cases q1:inB y lo hi
   all_goals
    go_wp2;refine rB ?_
    repeat(first|go_big_quiet_skip|(go_big_quiet_want;go_big_quiet_op;first|go_big_quiet_on|(apply Exists.intro;refine⟨fun _=>?_,?_⟩;(· ((go_at_call 87;exact Calls.yR ((wI _ _ _ _).mono (fun e w' h=>by(first|rw[q1] at h|skip);exact h)))));go_big_quiet_on)))
    refine wpQuiet_nil ?_;rintro w9 ⟨uu,rfl⟩;have hb9:=yO wr uu;generalize bel wr uu=w9 at *;have HB9:=xN (yQ HB.out HB.out.size hb9);clear hb9;go_wp2
   ·go_ret
    exact⟨yP (xH fun h=>by have h1:=(h k y HG.out).1;rw[q1] at h1;exact absurd h1 (by simp)).symm,HB9.out⟩
   ·go_roundw
    case rel=>exact⟨k+1,by omega,by go_num,HS.out.step HG.out ⟨q1,fun p h=>by have:=K0.out;omega⟩,HB9.out⟩
    case measure=>simp[intOf];omega
  obtain⟨j,rfl⟩: ∃ j,k=j+1:=⟨k - 1,by omega⟩;have hltj:j<xs.length:=by omega
  have hgj:=gE hltj;obtain⟨b2,off2,hA,hb2,hcell2⟩:=HX.out j xs[j] hgj;obtain⟨rfl,rfl⟩:b=b2∧off=off2:=by injection hA with hA;injection hA with e1 e2;exact⟨e1,e2⟩
  generalize xs[j]=z at *;have HJ:=xN hgj;clear hgj hA;have cz:=(HB.out.cell hb2).trans hcell2;have g1:=yN cz;have e1:IntKind.i64.wrap ((j:Int)+1 - 1)=(j:Int):=by rw[IntWalk.i64_in _ zM];omega
  have e2:IntKind.i64.wrap (j:Int)=(j:Int):=IntWalk.i64_in _ zM;have n0:(0:Int)≤(j:Int):=by omega
  have n2:((j:Int)<(xs.length:Int)):=by omega
  have n3:((j:Int)+1<(xs.length:Int)):=by omega
  have n4:(0:Int)≤(j:Int)+1:=by omega
  cases q1:inB y lo hi
  ·go_wp2
   refine rB ?_
   repeat(first|go_big_quiet_skip|(go_big_quiet_want;go_big_quiet_op;first|go_big_quiet_on|(apply Exists.intro;refine⟨fun _=>?_,?_⟩;(· ((go_at_call 87;exact Calls.yR ((wI _ _ _ _).mono (fun e w' h=>by(first|rw[q1] at h|skip);exact h)))));go_big_quiet_on)))
   refine wpQuiet_nil ?_;rintro w9 ⟨uu,rfl⟩;have hb9:=yO wr uu;generalize bel wr uu=w9 at *;have HB9:=xN (yQ HB.out HB.out.size hb9);clear hb9;go_wp2;go_ret
   exact⟨yP (xH fun h=>by have h1:=(h (j+1) y HG.out).1;rw[q1] at h1;exact absurd h1 (by simp)).symm,HB9.out⟩
  by_cases q2:y≤z
  ·have d2:decide (y≤z)=true:=decide_eq_true q2
   have Q2:=xN q2;go_wp2;refine rB ?_
   repeat(first|go_big_quiet_skip|(go_big_quiet_want;go_big_quiet_op;first|go_big_quiet_on|(apply Exists.intro;refine⟨fun _=>?_,?_⟩;(· ((go_at_call 87;exact Calls.yR ((wI _ _ _ _).mono (fun e w' h=>by(first|rw[q1] at h|skip);exact h)))));go_big_quiet_on)))
   refine wpQuiet_nil ?_;rintro w9 ⟨uu,rfl⟩;have hb9:=yO wr uu;generalize bel wr uu=w9 at *;have HB9:=xN (yQ HB.out HB.out.size hb9);clear hb9;go_wp2;go_ret
   exact⟨yP (xH fun h=>by have h1:=(h (j+1) y HG.out).2 z zM HJ.out;have:=Q2.out;omega).symm,HB9.out⟩
  have d2:decide (y≤z)=false:=decide_eq_false q2;go_wp2;refine rB ?_
  repeat(first|go_big_quiet_skip|(go_big_quiet_want;go_big_quiet_op;first|go_big_quiet_on|(apply Exists.intro;refine⟨fun _=>?_,?_⟩;(· ((go_at_call 87;exact Calls.yR ((wI _ _ _ _).mono (fun e w' h=>by(first|rw[q1] at h|skip);exact h)))));go_big_quiet_on)))
  refine wpQuiet_nil ?_;rintro w9 ⟨uu,rfl⟩;have hb9:=yO wr uu;generalize bel wr uu=w9 at *;have HB9:=xN (yQ HB.out HB.out.size hb9);clear hb9;go_wp2
  go_roundw
  case rel=>exact⟨j+1+1,by omega,by go_num,HS.out.step HG.out ⟨q1,fun p _ hp=>by rw[Nat.add_sub_cancel,HJ.out] at hp;injection hp with hp;subst hp;omega⟩,HB9.out⟩
  case measure=>simp[intOf];omega
theorem wTz (n:Int) (w:World) (h0:0≤n) (h1:n≤1000):Calls Tryz.prog 88 #[.int .i64 n] w fun e w'=>e= .returned (.int .i64 (uC n))∧w=w':=by
 go_enter Tryz.func88,Tryz.ntmps88
 go_wp2;go_ret
 exact⟨wL (by unfold uC;omega),rfl⟩
theorem c_iBlocks (x:xS) (cs:List Value) (w:World) (h0:0≤x.zF) (h1:x.zF≤1000) (h:T.rds w x.fs cs):Calls Tryz.prog 90 #[.agg cs.toArray] w fun e w'=>e= .returned (.int .i64 (uC x.zF))∧Below w.heap.size w w':=by
 obtain⟨v1,v2,v3,v4,v5,rfl,h1,h2,h3,h4,h5⟩:=xS.yV h;clear h;obtain⟨va1,vc1,rfl,vl1,vm1,R1,HX1⟩:=oG h1;clear h1;obtain⟨va2,vc2,rfl,vl2,vm2,R2,HX2⟩:=oG h2;clear h2;obtain⟨va3,vc3,rfl,vl3,vm3,R3,HX3⟩:=oI h3;clear h3;obtain⟨va4,vc4,rfl,vl4,vm4,R4,HX4⟩:=oG h4;clear h4;obtain⟨va5,vc5,rfl,vl5,vm5,R5,HX5⟩:=oG h5;clear h5;have HB0:=xN (show Below w.heap.size w (w.alloc (.cells #[.int .i64 x.zF,(.slice va1 x.zI.length vc1),(.slice va2 x.zL.length vc2),(.slice va3 x.zX.length vc3),(.slice va4 x.zO.length vc4),(.slice va5 x.zH.zD.length vc5)] 32)) from zR.alloc zJ _);have HK0:=xN (Bk.born w 32 #[.int .i64 x.zF,(.slice va1 x.zI.length vc1),(.slice va2 x.zL.length vc2),(.slice va3 x.zX.length vc3),(.slice va4 x.zO.length vc4),(.slice va5 x.zH.zD.length vc5)])
 go_enter Tryz.func90,Tryz.ntmps90
 go_wp2;go_ret
 exact⟨wL (by unfold uC;omega),HB0.out⟩
theorem c_l31Cache (x:xX) (b o:Nat) (w:World) (hs:x.zB.small) (h:T.at w x.fs b o):Calls Tryz.prog 57 #[.pointer (some ⟨b,o,none⟩)] w fun e w'=>e= .returned (.bool (tf (uV x)))∧Below w.heap.size w w':=by
 have HAT:=xN h;obtain⟨hlt0,cs,hr,hc⟩:=h;obtain⟨v1,v2,v3,v4,v5,v6,v7,rfl,h1,h2,h3,h4,h5,h6,h7⟩:=xX.yV hr;clear hr;obtain⟨va1,vc1,rfl,vl1,vm1,R1,HX1⟩:=oG h1;clear h1;obtain⟨va2,vc2,rfl,vl2,vm2,R2,HX2⟩:=oG h2;clear h2;obtain⟨va3,vc3,rfl,vl3,vm3,R3,HX3⟩:=oI h3;clear h3;obtain⟨va4,vc4,rfl,vl4,vm4,R4,HX4⟩:=oG h4;clear h4;obtain⟨va5,vc5,rfl,vl5,vm5,R5,HX5⟩:=oG h5;clear h5;obtain⟨va6,vc6,rfl,vl6,vm6,R6,HX6⟩:=oI h6;clear h6;obtain⟨va7,vc7,rfl,vl7,vm7,R7,HX7⟩:=oI h7;clear h7;have HL:=xN hlt0;have HCC:=xN hc;have HB0:=xN (Below.refl w.heap.size w);clear hlt0 hc;have HATS:=xN (show T.at w x.zB.fs b o from T.at_sub [] [.int .i64 x.zB.zF,(.slice va1 x.zB.zI.length vc1),(.slice va2 x.zB.zL.length vc2),(.slice va3 x.zB.zX.length vc3),(.slice va4 x.zB.zO.length vc4),(.slice va5 x.zB.zH.zD.length vc5)] [(.slice va6 x.yF.length vc6),(.slice va7 x.yC.length vc7)] HL.out HCC.out (xS.rd_mk R1.out R2.out (T.xB.2 R3.out) R4.out R5.out));have HSM:=xN hs;clear hs;have p0:w.cell? ⟨b,o,none⟩=some (.int .i64 x.zB.zF):=(HB0.out.cell HL.out).trans (HCC.out 0 _ rfl);have p1:w.cell? ⟨b,o+1,none⟩=some (.slice va1 x.zB.zI.length vc1):=(HB0.out.cell HL.out).trans (HCC.out 1 _ rfl);have p2:w.cell? ⟨b,o+2,none⟩=some (.slice va2 x.zB.zL.length vc2):=(HB0.out.cell HL.out).trans (HCC.out 2 _ rfl);have p3:w.cell? ⟨b,o+3,none⟩=some (.slice va3 x.zB.zX.length vc3):=(HB0.out.cell HL.out).trans (HCC.out 3 _ rfl);have p4:w.cell? ⟨b,o+4,none⟩=some (.slice va4 x.zB.zO.length vc4):=(HB0.out.cell HL.out).trans (HCC.out 4 _ rfl);have p5:w.cell? ⟨b,o+5,none⟩=some (.slice va5 x.zB.zH.zD.length vc5):=(HB0.out.cell HL.out).trans (HCC.out 5 _ rfl);have p6:w.cell? ⟨b,o+6,none⟩=some (.slice va6 x.yF.length vc6):=(HB0.out.cell HL.out).trans (HCC.out 6 _ rfl);have p7:w.cell? ⟨b,o+7,none⟩=some (.slice va7 x.yC.length vc7):=(HB0.out.cell HL.out).trans (HCC.out 7 _ rfl);have lb:b<w.heap.size:=zW HL.out HB0.out.size
 go_enter Tryz.func57,Tryz.ntmps57
 go_wp2;by_cases q1:vO x.zB
 rotate_left
 ·have a1:=xH q1;have Q1:=xN q1;clear q1
  have g0:=yN p0;have g1:=yN p6;have g2:=yN p7;refine rB ?_
  repeat(first|go_big_quiet_skip|(go_big_quiet_want;go_big_quiet_op;first|go_big_quiet_on|(apply Exists.intro;refine⟨fun _=>?_,?_⟩;(· ((go_at_call 54;exact Calls.yS ((zJy x.zB _ _ _ HSM.out (T.at_below HATS.out (yO w _))).mono (fun e w' h=>by(first|rw[a1] at h|skip);exact h)))));go_big_quiet_on)))
  refine wpQuiet_nil ?_;rintro w9 ⟨uu,rfl⟩;have hb9:=yO w uu;generalize bel w uu=w9 at *;have HB9:=xN (yQ HB0.out HB0.out.size hb9);clear g0 g1 g2;go_wp2;go_ret
  exact⟨yP (xH fun h=>Q1.out h.session).symm,HB9.out⟩
 have a1:=xI q1;have Q1:=xN q1;clear q1;have i1:=xK.1 Q1.out.length
 cases q2:wFz x.yF
 ·have hneg:=xN (show uV x→False from fun h=>by
   have h1:=h.length;have h2:=h.mix;have h3:wFz x.yF=true:=by unfold wFz;rw[h2];simp;omega
   rw[q2] at h3;exact absurd h3 (by simp))
  have g0:=yN p0;have g1:=yN p6;have g2:=yN p7;refine rB ?_
  repeat(first|go_big_quiet_skip|(go_big_quiet_want;go_big_quiet_op;first|go_big_quiet_on|(apply Exists.intro;refine⟨fun _=>?_,?_⟩;(· (first|(go_at_call 54;exact Calls.yS ((zJy x.zB _ _ _ HSM.out (T.at_below HATS.out (yO w _))).mono (fun e w' h=>by(first|rw[a1] at h|skip);exact h)))|(go_at_call 123;exact Calls.yR ((wHz _ x.yF _ (Rd.below R6.out (yO w _))).mono (fun e w' h=>by(first|rw[q2] at h|skip);exact h)))));go_big_quiet_on)))
  refine wpQuiet_nil ?_;rintro w9 ⟨uu,rfl⟩;have hb9:=yO w uu;generalize bel w uu=w9 at *;have HB9:=xN (yQ HB0.out HB0.out.size hb9);clear g0 g1 g2;go_wp2;go_ret
  exact⟨yP (xH fun h=>hneg.out h).symm,HB9.out⟩
 have hsm:=xN (show smpB x.yF=true by unfold wFz at q2;simp at q2;exact q2.2);by_cases q3:(x.yF.length:Int)=x.zB.zF
 rotate_left
 ·have b3:((x.yF.length:Int) == x.zB.zF)=false:=yZ q3;have Q3:=xN q3;clear q3
  have g0:=yN p0;have g1:=yN p6;have g2:=yN p7;refine rB ?_
  repeat(first|go_big_quiet_skip|(go_big_quiet_want;go_big_quiet_op;first|go_big_quiet_on|(apply Exists.intro;refine⟨fun _=>?_,?_⟩;(· (first|(go_at_call 54;exact Calls.yS ((zJy x.zB _ _ _ HSM.out (T.at_below HATS.out (yO w _))).mono (fun e w' h=>by(first|rw[a1] at h|skip);exact h)))|(go_at_call 123;exact Calls.yR ((wHz _ x.yF _ (Rd.below R6.out (yO w _))).mono (fun e w' h=>by(first|rw[q2] at h|skip);exact h)))));go_big_quiet_on)))
  refine wpQuiet_nil ?_;rintro w9 ⟨uu,rfl⟩;have hb9:=yO w uu;generalize bel w uu=w9 at *;have HB9:=xN (yQ HB0.out HB0.out.size hb9);clear g0 g1 g2;go_wp2;go_ret
  exact⟨yP (xH fun h=>Q3.out h.length).symm,HB9.out⟩
 have b3:((x.yF.length:Int) == x.zB.zF)=true:=xA q3;have Q3:=xN q3;clear q3;have e5:IntKind.i64.wrap (uC x.zB.zF - 1)=uC x.zB.zF - 1:=IntWalk.i64_in _ (by unfold uC;omega);by_cases q4:Each x.yC (fun i x_1=>inB x_1 0 (uC x.zB.zF - 1)=true∧ ∀ p,0<i→x.yC[i - 1]?=some p→p<x_1)
 rotate_left
 ·have a4:=xH q4;have Q4:=xN q4;clear q4
  have g0:=yN p0;have g1:=yN p6;have g2:=yN p7;refine rB ?_
  repeat(first|go_big_quiet_skip|(go_big_quiet_want;go_big_quiet_op;first|go_big_quiet_on|(apply Exists.intro;refine⟨fun _=>?_,?_⟩;(· (first|(go_at_call 54;exact Calls.yS ((zJy x.zB _ _ _ HSM.out (T.at_below HATS.out (yO w _))).mono (fun e w' h=>by(first|rw[a1] at h|skip);exact h)))|(go_at_call 123;exact Calls.yR ((wHz _ x.yF _ (Rd.below R6.out (yO w _))).mono (fun e w' h=>by(first|rw[q2] at h|skip);exact h)))|(go_at_call 88;exact Calls.yR (wTz _ _ i1.1 i1.2))|(go_at_call 130;exact Calls.yS ((c_l00Rises _ x.yC _ _ _ (Rd.below R7.out (yO w _))).mono (fun e w' h=>by(first|rw[a4] at h|skip);exact h)))));go_big_quiet_on)))
  refine wpQuiet_nil ?_;rintro w9 ⟨uu,rfl⟩;have hb9:=yO w uu;generalize bel w uu=w9 at *;have HB9:=xN (yQ HB0.out HB0.out.size hb9);clear g0 g1 g2;go_wp2;go_ret
  exact⟨yP (xH fun h=>Q4.out (fun i d hd=>⟨xK.2 (h.dirty i d hd).1,(h.dirty i d hd).2⟩)).symm,HB9.out⟩
 have a4:=xI q4;have Q4:=xN q4;clear q4;have g0:=yN p0;have g1:=yN p6;have g2:=yN p7;refine rB ?_
 repeat(first|go_big_quiet_skip|(go_big_quiet_want;go_big_quiet_op;first|go_big_quiet_on|(apply Exists.intro;refine⟨fun _=>?_,?_⟩;(· (first|(go_at_call 54;exact Calls.yS ((zJy x.zB _ _ _ HSM.out (T.at_below HATS.out (yO w _))).mono (fun e w' h=>by(first|rw[a1] at h|skip);exact h)))|(go_at_call 123;exact Calls.yR ((wHz _ x.yF _ (Rd.below R6.out (yO w _))).mono (fun e w' h=>by(first|rw[q2] at h|skip);exact h)))|(go_at_call 88;exact Calls.yR (wTz _ _ i1.1 i1.2))|(go_at_call 130;exact Calls.yS ((c_l00Rises _ x.yC _ _ _ (Rd.below R7.out (yO w _))).mono (fun e w' h=>by(first|rw[a4] at h|skip);exact h)))));go_big_quiet_on)))
 refine wpQuiet_nil ?_;rintro w9 ⟨uu,rfl⟩;have hb9:=yO w uu;generalize bel w uu=w9 at *;have HB9:=xN (yQ HB0.out HB0.out.size hb9);clear g0 g1 g2;go_wp2;go_ret
 exact⟨yP (xI ⟨Q1.out,Q3.out,hsm.out,fun i d hd=>⟨xK.1 (Q4.out i d hd).1,(Q4.out i d hd).2⟩⟩).symm,HB9.out⟩
theorem c_isCache (x:xX) (cs:List Value) (w:World) (hs:x.zB.small) (h:T.rds w x.fs cs):Calls Tryz.prog 60 #[.agg cs.toArray] w fun e w'=>e= .returned (.bool (tf (uV x)))∧Below w.heap.size w w':=by
 obtain⟨v1,v2,v3,v4,v5,v6,v7,rfl,h1,h2,h3,h4,h5,h6,h7⟩:=xX.yV h;clear h;obtain⟨va1,vc1,rfl,vl1,vm1,R1,HX1⟩:=oG h1;clear h1;obtain⟨va2,vc2,rfl,vl2,vm2,R2,HX2⟩:=oG h2;clear h2;obtain⟨va3,vc3,rfl,vl3,vm3,R3,HX3⟩:=oI h3;clear h3;obtain⟨va4,vc4,rfl,vl4,vm4,R4,HX4⟩:=oG h4;clear h4;obtain⟨va5,vc5,rfl,vl5,vm5,R5,HX5⟩:=oG h5;clear h5;obtain⟨va6,vc6,rfl,vl6,vm6,R6,HX6⟩:=oI h6;clear h6;obtain⟨va7,vc7,rfl,vl7,vm7,R7,HX7⟩:=oI h7;clear h7;have HB0:=xN (show Below w.heap.size w (w.alloc (.cells #[.int .i64 x.zB.zF,(.slice va1 x.zB.zI.length vc1),(.slice va2 x.zB.zL.length vc2),(.slice va3 x.zB.zX.length vc3),(.slice va4 x.zB.zO.length vc4),(.slice va5 x.zB.zH.zD.length vc5),(.slice va6 x.yF.length vc6),(.slice va7 x.yC.length vc7)] 65)) from zR.alloc zJ _);have HK0:=xN (Bk.born w 65 #[.int .i64 x.zB.zF,(.slice va1 x.zB.zI.length vc1),(.slice va2 x.zB.zL.length vc2),(.slice va3 x.zB.zX.length vc3),(.slice va4 x.zB.zO.length vc4),(.slice va5 x.zB.zH.zD.length vc5),(.slice va6 x.yF.length vc6),(.slice va7 x.yC.length vc7)]);have HSM:=xN hs;clear hs
 go_enter Tryz.func60,Tryz.ntmps60
 go_wp2;generalize (w.alloc (.cells #[.int .i64 x.zB.zF,(.slice va1 x.zB.zI.length vc1),(.slice va2 x.zB.zL.length vc2),(.slice va3 x.zB.zX.length vc3),(.slice va4 x.zB.zO.length vc4),(.slice va5 x.zB.zH.zD.length vc5),(.slice va6 x.yF.length vc6),(.slice va7 x.yC.length vc7)] 65))=W at *;have g0:=xM HK0.out;have lW:=HK0.out.lt;have HRW:=xN (fun u=>xS.rd_mk (T.yM R1.out (yQ HB0.out HB0.out.size (yO W u))) (T.yM R2.out (yQ HB0.out HB0.out.size (yO W u))) (T.xB.2 (Rd.below R3.out (yQ HB0.out HB0.out.size (yO W u)))) (T.yM R4.out (yQ HB0.out HB0.out.size (yO W u))) (T.yM R5.out (yQ HB0.out HB0.out.size (yO W u))));by_cases q1:vO x.zB
 rotate_left
 ·have a1:=xH q1;have Q1:=xN q1;clear q1
  refine rB ?_
  repeat(first|go_big_quiet_skip|(go_big_quiet_want;go_big_quiet_op;first|go_big_quiet_on|(apply Exists.intro;refine⟨fun _=>?_,?_⟩;(· (first|(go_at_call 44;exact Calls.yS ((yXz x.zB _ _ HSM.out (HRW.out _)).mono (fun e w' h=>by(first|rw[a1] at h|skip);exact h)))));go_big_quiet_on)))
  refine wpQuiet_nil ?_;rintro w9 ⟨uu,rfl⟩;have hb9:=yO W uu;generalize bel W uu=w9 at *;have HB9:=xN (yQ HB0.out HB0.out.size hb9);go_wp2;go_ret
  exact⟨yP (xH fun h=>Q1.out h.session).symm,HB9.out⟩
 have a1:=xI q1;have Q1:=xN q1;clear q1;have i1:=xK.1 Q1.out.length;by_cases q3:(x.yF.length:Int)=x.zB.zF
 rotate_left
 ·have b3:((x.yF.length:Int) != x.zB.zF)=true:=yQz q3;have Q3:=xN q3;clear q3
  refine rB ?_
  repeat(first|go_big_quiet_skip|(go_big_quiet_want;go_big_quiet_op;first|go_big_quiet_on|(apply Exists.intro;refine⟨fun _=>?_,?_⟩;(· (first|(go_at_call 44;exact Calls.yS ((yXz x.zB _ _ HSM.out (HRW.out _)).mono (fun e w' h=>by(first|rw[a1] at h|skip);exact h)))|(go_at_call 86;exact Calls.yR (vZ _ x.yF _ (Rd.below R6.out (yQ HB0.out HB0.out.size (yO W _)))))));go_big_quiet_on)))
  refine wpQuiet_nil ?_;rintro w9 ⟨uu,rfl⟩;have hb9:=yO W uu;generalize bel W uu=w9 at *;have HB9:=xN (yQ HB0.out HB0.out.size hb9);go_wp2;go_ret
  exact⟨yP (xH fun h=>Q3.out h.length).symm,HB9.out⟩
 have b3:((x.yF.length:Int) != x.zB.zF)=false:=yRz q3;have Q3:=xN q3;clear q3
 cases q2:smpB x.yF
 ·skip
  refine rB ?_
  repeat(first|go_big_quiet_skip|(go_big_quiet_want;go_big_quiet_op;first|go_big_quiet_on|(apply Exists.intro;refine⟨fun _=>?_,?_⟩;(· (first|(go_at_call 44;exact Calls.yS ((yXz x.zB _ _ HSM.out (HRW.out _)).mono (fun e w' h=>by(first|rw[a1] at h|skip);exact h)))|(go_at_call 86;exact Calls.yR (vZ _ x.yF _ (Rd.below R6.out (yQ HB0.out HB0.out.size (yO W _)))))|(go_at_call 131;exact Calls.yR ((uG _ x.yF _ (Rd.below R6.out (yQ HB0.out HB0.out.size (yO W _)))).mono (fun e w' h=>by(first|rw[q2] at h|skip);exact h)))));go_big_quiet_on)))
  refine wpQuiet_nil ?_;rintro w9 ⟨uu,rfl⟩;have hb9:=yO W uu;generalize bel W uu=w9 at *;have HB9:=xN (yQ HB0.out HB0.out.size hb9);go_wp2;go_ret
  exact⟨yP (xH fun h=>by have h1:=h.mix;rw[q2] at h1;exact absurd h1 (by simp)).symm,HB9.out⟩
 have bl:0≤uC x.zB.zF∧uC x.zB.zF≤9223372036854775807:=by unfold uC;omega
 by_cases q4:Idx x.yC (uC x.zB.zF)
 rotate_left
 ·have a4:=xH q4;have Q4:=xN q4;clear q4
  refine rB ?_
  repeat(first|go_big_quiet_skip|(go_big_quiet_want;go_big_quiet_op;first|go_big_quiet_on|(apply Exists.intro;refine⟨fun _=>?_,?_⟩;(· (first|(go_at_call 44;exact Calls.yS ((yXz x.zB _ _ HSM.out (HRW.out _)).mono (fun e w' h=>by(first|rw[a1] at h|skip);exact h)))|(go_at_call 86;exact Calls.yR (vZ _ x.yF _ (Rd.below R6.out (yQ HB0.out HB0.out.size (yO W _)))))|(go_at_call 131;exact Calls.yR ((uG _ x.yF _ (Rd.below R6.out (yQ HB0.out HB0.out.size (yO W _)))).mono (fun e w' h=>by(first|rw[q2] at h|skip);exact h)))|(go_at_call 90;exact Calls.yS (c_iBlocks x.zB _ _ i1.1 i1.2 (HRW.out _)))|(go_at_call 105;exact Calls.yR ((wY _ x.yC _ _ (Rd.below R7.out (yQ HB0.out HB0.out.size (yO W _))) bl.1 bl.2).mono (fun e w' h=>by(first|rw[a4] at h|skip);exact h)))));go_big_quiet_on)))
  refine wpQuiet_nil ?_;rintro w9 ⟨uu,rfl⟩;have hb9:=yO W uu;generalize bel W uu=w9 at *;have HB9:=xN (yQ HB0.out HB0.out.size hb9);go_wp2;go_ret
  exact⟨yP (xH fun h=>Q4.out (fun i d hd=>(h.dirty i d hd).1)).symm,HB9.out⟩
 have a4:=xI q4;have Q4:=xN q4;clear q4;refine rB ?_
 repeat(first|go_big_quiet_skip|(go_big_quiet_want;go_big_quiet_op;first|go_big_quiet_on|(apply Exists.intro;refine⟨fun _=>?_,?_⟩;(· (first|(go_at_call 44;exact Calls.yS ((yXz x.zB _ _ HSM.out (HRW.out _)).mono (fun e w' h=>by(first|rw[a1] at h|skip);exact h)))|(go_at_call 86;exact Calls.yR (vZ _ x.yF _ (Rd.below R6.out (yQ HB0.out HB0.out.size (yO W _)))))|(go_at_call 131;exact Calls.yR ((uG _ x.yF _ (Rd.below R6.out (yQ HB0.out HB0.out.size (yO W _)))).mono (fun e w' h=>by(first|rw[q2] at h|skip);exact h)))|(go_at_call 90;exact Calls.yS (c_iBlocks x.zB _ _ i1.1 i1.2 (HRW.out _)))|(go_at_call 105;exact Calls.yR ((wY _ x.yC _ _ (Rd.below R7.out (yQ HB0.out HB0.out.size (yO W _))) bl.1 bl.2).mono (fun e w' h=>by(first|rw[a4] at h|skip);exact h)))));go_big_quiet_on)))
 refine wpQuiet_nil ?_;rintro w9 ⟨uu,rfl⟩;have hb9:=yO W uu;generalize bel W uu=w9 at *;have HB9:=xN (yQ HB0.out HB0.out.size hb9);have HK9:=xN (HK0.out.below hb9 HK0.out.lt);clear hb9 g0 a1 a4 b3 bl lW;have ka:=HK9.out.cell;have la:=HK9.out.lt;go_wp2;clear ka la
 go_loopw [3] (fun i wr=> ∃ k:Nat,1≤k∧k≤x.yC.length+1∧i= .int .i64 k∧(∀ j d p,0<j→j<k→x.yC[j]?=some d→x.yC[j - 1]?=some p→p<d)∧Below w9.heap.size w9 wr) (fun i _=>x.yC.length+1 - (intOf i).toNat)
 case atStart=>exact⟨1,by omega,by omega,rfl,fun j d p h1 h2=>by omega,zR⟩
 case round=>
  obtain⟨k,hk1,hk,rfl,hs,hbw⟩:=hrel;have HS:=xN hs;have HW:=xN hbw;have HB:=xN (yQ HB9.out HB9.out.size hbw);have HK:=xN (HK9.out.below hbw HK9.out.lt);clear hs hbw;have ka:=HK.out.cell;have la:=HK.out.lt;by_cases hlt:k<x.yC.length
  rotate_left
  ·go_wp2
   go_ret
   exact⟨yP (xI ⟨Q1.out,Q3.out,q2,fun i d hd=>⟨Q4.out i d hd,fun p h0 hp=>HS.out i d p h0 (by have:=(List.getElem?_eq_some_iff.1 hd).1;omega) hd hp⟩⟩).symm,HB.out⟩
  obtain⟨j,rfl⟩: ∃ j,k=j+1:=⟨k - 1,by omega⟩;have hltj:j<x.yC.length:=by omega
  have hgk:=gE hlt;have hgj:=gE hltj;obtain⟨b1,off,hA1,hb1,hc1⟩:=HX7.out (j+1) x.yC[j+1] hgk;subst hA1;obtain⟨b2,off2,hA,hb2,hc2⟩:=HX7.out j x.yC[j] hgj;obtain⟨rfl,rfl⟩:b1=b2∧off=off2:=by injection hA with hA;injection hA with e1 e2;exact⟨e1,e2⟩
  generalize x.yC[j+1]=y at *;generalize x.yC[j]=z at *;have HG:=xN hgk;have HJ:=xN hgj;clear hgk hgj hA;have cy:=(HB.out.cell hb1).trans hc1;have cz:=(HB.out.cell hb2).trans hc2;have g0:=xM HK.out;have g1:=yN cy;have g2:=yN cz;have e1:IntKind.i64.wrap ((j:Int)+1 - 1)=(j:Int):=by rw[IntWalk.i64_in _ zM];omega
  have e2:IntKind.i64.wrap (j:Int)=(j:Int):=IntWalk.i64_in _ zM;have n0:(0:Int)≤(j:Int):=by omega
  have n2:((j:Int)<(x.yC.length:Int)):=by omega
  have n3:((j:Int)+1<(x.yC.length:Int)):=by omega
  have n4:(0:Int)≤(j:Int)+1:=by omega
  by_cases q5:y≤z
  ·have d5:decide (y≤z)=true:=decide_eq_true q5;have Q5:=xN q5
   go_wp2;refine rB ?_
   repeat(first|go_big_quiet_skip|(go_big_quiet_want;go_big_quiet_op;first|go_big_quiet_on|(apply Exists.intro;refine⟨fun _=>?_,?_⟩;(· (fail));go_big_quiet_on)))
   refine wpQuiet_nil ?_;rintro w9 ⟨uu,rfl⟩;have hb9:=yO wr uu;generalize bel wr uu=w9 at *;have HBr:=xN (yQ HB.out HB.out.size hb9);have HWr:=xN (yQ HW.out HW.out.size hb9);clear hb9;go_wp2;go_ret
   exact⟨yP (xH fun h=>by have h1:=(h.dirty (j+1) y HG.out).2 z zM HJ.out;have:=Q5.out;omega).symm,HBr.out⟩
  have d5:decide (y≤z)=false:=decide_eq_false q5;go_wp2;refine rB ?_
  repeat(first|go_big_quiet_skip|(go_big_quiet_want;go_big_quiet_op;first|go_big_quiet_on|(apply Exists.intro;refine⟨fun _=>?_,?_⟩;(· (fail));go_big_quiet_on)))
  refine wpQuiet_nil ?_;rintro w9 ⟨uu,rfl⟩;have hb9:=yO wr uu;generalize bel wr uu=w9 at *;have HBr:=xN (yQ HB.out HB.out.size hb9);have HWr:=xN (yQ HW.out HW.out.size hb9);clear hb9;go_wp2
  go_roundw
  case rel=>exact⟨j+1+1,by omega,by omega,by go_num,fun i d p h1 h2 hd hp=>by
    by_cases e:i=j+1
    ·subst e
     rw[HG.out] at hd;injection hd with hd;subst hd;rw[Nat.add_sub_cancel,HJ.out] at hp;injection hp with hp;subst hp
     omega
    ·exact HS.out i d p h1 zM hd hp,HWr.out⟩
  case measure=>simp[intOf];omega
end
end Go.Proofs.YtoibekfhepnedaaGreat
