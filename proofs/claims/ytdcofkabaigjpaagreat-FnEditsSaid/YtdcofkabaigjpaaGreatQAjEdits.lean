/- Contracts: valid sessions, by the reference. Contracts: valid caches, both sides. Contracts: reading a cache, both sides. Rendering a patch, in plain words. Contracts: rendering, small functions of both sides. -/
import Derived.Test.YtdcofkabaigjpaaGreatQAiEdits
set_option linter.unusedVariables false
set_option linter.unusedSimpArgs false
set_option maxHeartbeats 2000000
set_option maxRecDepth 20000
namespace Go.Proofs.YtdcofkabaigjpaaGreat
section
open Go.RowKit
theorem wIz {x:xQ} :x=uO↔x.zU=0∧x.zY.length=0∧x.zF.length=0∧x.zX.length=0:=by
 obtain⟨a,b,c,d⟩:=x;simp[uO]
theorem c_l27None (x:xQ) (b o:Nat) (w:World) (h:T.at w x.fs b o):Calls Tryz.prog 71 #[.pointer (some ⟨b,o,none⟩)] w fun e w'=>e= .returned (.bool (tf (x=uO)))∧Below w.heap.size w w':=by
 have HAT:=xN h;obtain⟨hlt0,cs,hr,hc⟩:=h;obtain⟨v1,v2,v3,rfl,h1,h2,h3⟩:=xQ.yT hr;clear hr;obtain⟨va1,vc1,rfl,vl1,vm1,R1,HX1⟩:=oG h1;clear h1;obtain⟨va2,vc2,rfl,vl2,vm2,R2,HX2⟩:=oG h2;clear h2;obtain⟨va3,vc3,rfl,vl3,vm3,R3,HX3⟩:=oI h3;clear h3;have HL:=xN hlt0;have HCC:=xN hc;have HB0:=xN (Below.refl w.heap.size w);clear hlt0 hc;obtain⟨p0,p1,p2,p3⟩:=pc4 HB0.o HL.o HCC.o;have lb:b<w.heap.size:=zW HL.o HB0.o.size
 go_enter Tryz.func71,Tryz.ntmps71
 by_cases q0:x.zU=0
 rotate_left
 ·have b0:(x.zU == 0)=false:=yZ zM;have Q0:=xN q0;clear q0
  go_wp2;go_ret
  exact⟨yN (xH fun h=>Q0.o (wIz.1 h).1).symm,HB0.o⟩
 have b0:(x.zU == 0)=true:=xA zM;have Q0:=xN q0;clear q0;by_cases q1:x.zY.length=0
 rotate_left
 ·have b1:((x.zY.length:Int) == 0)=false:=yZ zM;have Q1:=xN q1;clear q1
  go_wp2;go_ret
  exact⟨yN (xH fun h=>Q1.o (wIz.1 h).2.1).symm,HB0.o⟩
 have b1:((x.zY.length:Int) == 0)=true:=xA zM;have Q1:=xN q1;clear q1;by_cases q2:x.zF.length=0
 rotate_left
 ·have b2:((x.zF.length:Int) == 0)=false:=yZ zM;have Q2:=xN q2;clear q2
  go_wp2;go_ret
  exact⟨yN (xH fun h=>Q2.o (wIz.1 h).2.2.1).symm,HB0.o⟩
 have b2:((x.zF.length:Int) == 0)=true:=xA zM;have Q2:=xN q2;clear q2;by_cases q3:x.zX.length=0
 rotate_left
 ·have b3:((x.zX.length:Int) == 0)=false:=yZ zM;have Q3:=xN q3;clear q3
  go_wp2;go_ret
  exact⟨yN (xH fun h=>Q3.o (wIz.1 h).2.2.2).symm,HB0.o⟩
 have b3:((x.zX.length:Int) == 0)=true:=xA zM;have Q3:=xN q3;clear q3;go_wp2;go_ret
 exact⟨yN (xI (wIz.2 ⟨Q0.o,Q1.o,Q2.o,Q3.o⟩)).symm,HB0.o⟩
theorem c_l27Ok (x:xO) (b o:Nat) (w:World) (hs:x.small) (h:T.at w x.fs b o):Calls Tryz.prog 33 #[.pointer (some ⟨b,o,none⟩)] w fun e w'=>e= .returned (.bool (tf (xW x)))∧Below w.heap.size w w':=by
 have HAT:=xN h;obtain⟨hlt0,cs,hr,hc⟩:=h;obtain⟨v1,v2,v3,v4,v5,rfl,h1,h2,h3,h4,h5⟩:=xO.yT hr;clear hr;obtain⟨va1,vc1,rfl,vl1,vm1,R1,HX1⟩:=oG h1;clear h1;obtain⟨va2,vc2,rfl,vl2,vm2,R2,HX2⟩:=oG h2;clear h2;obtain⟨va3,vc3,rfl,vl3,vm3,R3,HX3⟩:=oI h3;clear h3;obtain⟨va4,vc4,rfl,vl4,vm4,R4,HX4⟩:=oG h4;clear h4;obtain⟨va5,vc5,rfl,vl5,vm5,R5,HX5⟩:=oG h5;clear h5;have HL:=xN hlt0;have HCC:=xN hc;have HB0:=xN (Below.refl w.heap.size w);clear hlt0 hc;have hn5:x.zH.zC.length≤1048576:=hs.2.2.2.2.1;have HEF:=xN hs.2.2.2.1.2;clear hs;have HATM:=xN (show T.at w x.zH.fs b (o+5) from T.at_sub [.int .i64 x.zB,(.slice va1 x.zI.length vc1),(.slice va2 x.zG.length vc2),(.slice va3 x.zL.length vc3),(.slice va4 x.zK.length vc4)] [(.slice va5 x.zH.zC.length vc5)] [] HL.o HCC.o (vF.rd_mk R5.o));obtain⟨p0,p1,p2,p3,p4,p5⟩:=pc6 HB0.o HL.o HCC.o;have lb:b<w.heap.size:=zW HL.o HB0.o.size
 go_enter Tryz.func33,Tryz.ntmps33
 go_wp2;by_cases q1:inB x.zB 0 1000=true
 rotate_left
 ·have q1':inB x.zB 0 1000=false:=(by simpa using q1)
  have g0:=yK p0;have g1:=yK p1;have g2:=yK p2;have g3:=yK p3;have g4:=yK p4;have g5:=yK p5;refine rB ?_
  repeat(first|go_big_quiet_skip|(go_big_quiet_want;go_big_quiet_op;first|go_big_quiet_on|(apply Exists.intro;refine⟨fun _=>?_,?_⟩;(· (first|(go_at_call 67;exact Calls.yP ((wJ _ _ _ _).mono (fun e w' h=>by(first|rw[q1'] at h|skip);exact h)))|(go_at_call 68;exact Calls.yQ ((uEz x.zH _ _ _ hn5 (T.at_below HATM.o (yM w _))).mono (fun e w' h=>by(first|rw[a4] at h|skip);exact h)))));go_big_quiet_on)))
  refine wpQuiet_nil ?_;rintro w9 ⟨uu,rfl⟩;have hb9:=yM w uu;generalize bel w uu=w9 at *;have HB9:=xN (yO HB0.o HB0.o.size hb9);clear g0 g1 g2 g3 g4 g5;go_wp2;go_ret
  exact⟨yN (xH fun h=>q1 h.length).symm,HB9.o⟩
 have q1':=q1;by_cases q2:x.zI.length≤6
 rotate_left
 ·have d2:decide ((6:Int)<(x.zI.length:Int))=true:=decide_eq_true zM
  have g0:=yK p0;have g1:=yK p1;have g2:=yK p2;have g3:=yK p3;have g4:=yK p4;have g5:=yK p5;refine rB ?_
  repeat(first|go_big_quiet_skip|(go_big_quiet_want;go_big_quiet_op;first|go_big_quiet_on|(apply Exists.intro;refine⟨fun _=>?_,?_⟩;(· (first|(go_at_call 67;exact Calls.yP ((wJ _ _ _ _).mono (fun e w' h=>by(first|rw[q1'] at h|skip);exact h)))|(go_at_call 68;exact Calls.yQ ((uEz x.zH _ _ _ hn5 (T.at_below HATM.o (yM w _))).mono (fun e w' h=>by(first|rw[a4] at h|skip);exact h)))));go_big_quiet_on)))
  refine wpQuiet_nil ?_;rintro w9 ⟨uu,rfl⟩;have hb9:=yM w uu;generalize bel w uu=w9 at *;have HB9:=xN (yO HB0.o HB0.o.size hb9);clear g0 g1 g2 g3 g4 g5;go_wp2;go_ret
  exact⟨yN (xH fun h=>q2 h.sources.few).symm,HB9.o⟩
 have Q2:=xN q2;have d2:decide ((6:Int)<(x.zI.length:Int))=false:=decide_eq_false zM;by_cases q3:x.zG.length≤6
 rotate_left
 ·have d3:decide ((6:Int)<(x.zG.length:Int))=true:=decide_eq_true zM
  have g0:=yK p0;have g1:=yK p1;have g2:=yK p2;have g3:=yK p3;have g4:=yK p4;have g5:=yK p5;refine rB ?_
  repeat(first|go_big_quiet_skip|(go_big_quiet_want;go_big_quiet_op;first|go_big_quiet_on|(apply Exists.intro;refine⟨fun _=>?_,?_⟩;(· (first|(go_at_call 67;exact Calls.yP ((wJ _ _ _ _).mono (fun e w' h=>by(first|rw[q1'] at h|skip);exact h)))|(go_at_call 68;exact Calls.yQ ((uEz x.zH _ _ _ hn5 (T.at_below HATM.o (yM w _))).mono (fun e w' h=>by(first|rw[a4] at h|skip);exact h)))));go_big_quiet_on)))
  refine wpQuiet_nil ?_;rintro w9 ⟨uu,rfl⟩;have hb9:=yM w uu;generalize bel w uu=w9 at *;have HB9:=xN (yO HB0.o HB0.o.size hb9);clear g0 g1 g2 g3 g4 g5;go_wp2;go_ret
  exact⟨yN (xH fun h=>q3 h.few).symm,HB9.o⟩
 have Q3:=xN q3;have d3:decide ((6:Int)<(x.zG.length:Int))=false:=decide_eq_false zM;by_cases q4:zSz x.zH
 rotate_left
 ·have a4:=xH q4;have Q4:=xN q4;clear q4
  have g0:=yK p0;have g1:=yK p1;have g2:=yK p2;have g3:=yK p3;have g4:=yK p4;have g5:=yK p5;refine rB ?_
  repeat(first|go_big_quiet_skip|(go_big_quiet_want;go_big_quiet_op;first|go_big_quiet_on|(apply Exists.intro;refine⟨fun _=>?_,?_⟩;(· (first|(go_at_call 67;exact Calls.yP ((wJ _ _ _ _).mono (fun e w' h=>by(first|rw[q1'] at h|skip);exact h)))|(go_at_call 68;exact Calls.yQ ((uEz x.zH _ _ _ hn5 (T.at_below HATM.o (yM w _))).mono (fun e w' h=>by(first|rw[a4] at h|skip);exact h)))));go_big_quiet_on)))
  refine wpQuiet_nil ?_;rintro w9 ⟨uu,rfl⟩;have hb9:=yM w uu;generalize bel w uu=w9 at *;have HB9:=xN (yO HB0.o HB0.o.size hb9);clear g0 g1 g2 g3 g4 g5;go_wp2;go_ret
  exact⟨yN (xH fun h=>Q4.o h.mixer).symm,HB9.o⟩
 have a4:=xI q4;have Q4:=xN q4;clear q4;by_cases q5:x.zL.length=x.zG.length
 rotate_left
 ·have b5:((x.zL.length:Int) != (x.zG.length:Int))=true:=ySz zM;have Q5:=xN q5;clear q5
  have g0:=yK p0;have g1:=yK p1;have g2:=yK p2;have g3:=yK p3;have g4:=yK p4;have g5:=yK p5;refine rB ?_
  repeat(first|go_big_quiet_skip|(go_big_quiet_want;go_big_quiet_op;first|go_big_quiet_on|(apply Exists.intro;refine⟨fun _=>?_,?_⟩;(· (first|(go_at_call 67;exact Calls.yP ((wJ _ _ _ _).mono (fun e w' h=>by(first|rw[q1'] at h|skip);exact h)))|(go_at_call 68;exact Calls.yQ ((uEz x.zH _ _ _ hn5 (T.at_below HATM.o (yM w _))).mono (fun e w' h=>by(first|rw[a4] at h|skip);exact h)))));go_big_quiet_on)))
  refine wpQuiet_nil ?_;rintro w9 ⟨uu,rfl⟩;have hb9:=yM w uu;generalize bel w uu=w9 at *;have HB9:=xN (yO HB0.o HB0.o.size hb9);clear g0 g1 g2 g3 g4 g5;go_wp2;go_ret
  exact⟨yN (xH fun h=>Q5.o h.feed).symm,HB9.o⟩
 have b5:((x.zL.length:Int) != (x.zG.length:Int))=false:=yTz zM;have Q5:=xN q5;clear q5;by_cases q7:x.zK.length=x.zH.zC.length
 rotate_left
 ·have b7:((x.zK.length:Int) != (x.zH.zC.length:Int))=true:=ySz zM;have Q7:=xN q7;clear q7
  have g0:=yK p0;have g1:=yK p1;have g2:=yK p2;have g3:=yK p3;have g4:=yK p4;have g5:=yK p5;refine rB ?_
  repeat(first|go_big_quiet_skip|(go_big_quiet_want;go_big_quiet_op;first|go_big_quiet_on|(apply Exists.intro;refine⟨fun _=>?_,?_⟩;(· (first|(go_at_call 67;exact Calls.yP ((wJ _ _ _ _).mono (fun e w' h=>by(first|rw[q1'] at h|skip);exact h)))|(go_at_call 68;exact Calls.yQ ((uEz x.zH _ _ _ hn5 (T.at_below HATM.o (yM w _))).mono (fun e w' h=>by(first|rw[a4] at h|skip);exact h)))));go_big_quiet_on)))
  refine wpQuiet_nil ?_;rintro w9 ⟨uu,rfl⟩;have hb9:=yM w uu;generalize bel w uu=w9 at *;have HB9:=xN (yO HB0.o HB0.o.size hb9);clear g0 g1 g2 g3 g4 g5;go_wp2;go_ret
  exact⟨yN (xH fun h=>Q7.o h.effect).symm,HB9.o⟩
 have b7:((x.zK.length:Int) != (x.zH.zC.length:Int))=false:=yTz zM;have Q7:=xN q7;clear q7;have g0:=yK p0;have g1:=yK p1;have g2:=yK p2;have g3:=yK p3;have g4:=yK p4;have g5:=yK p5;refine rB ?_
 repeat(first|go_big_quiet_skip|(go_big_quiet_want;go_big_quiet_op;first|go_big_quiet_on|(apply Exists.intro;refine⟨fun _=>?_,?_⟩;(· (first|(go_at_call 67;exact Calls.yP ((wJ _ _ _ _).mono (fun e w' h=>by(first|rw[q1'] at h|skip);exact h)))|(go_at_call 68;exact Calls.yQ ((uEz x.zH _ _ _ hn5 (T.at_below HATM.o (yM w _))).mono (fun e w' h=>by(first|rw[a4] at h|skip);exact h)))));go_big_quiet_on)))
 refine wpQuiet_nil ?_;rintro w9 ⟨uu,rfl⟩;have hb9:=yM w uu;generalize bel w uu=w9 at *;have HB9:=xN (yO HB0.o HB0.o.size hb9);clear g0 g1 g2 g3 g4 g5;clear hb9 p0 p1 p2 p3 p4 p5 lb a4 b5 b7 d2 d3;obtain⟨p0,p1,p2,p3,p4,p5⟩:=pc6 HB9.o HL.o HCC.o;have lb:b<w9.heap.size:=zW HL.o HB9.o.size;go_wp2;clear p0 p1 p2 p3 p4 p5 lb
 go_loopw [3] (fun i wr=> ∃ k:Nat,k≤x.zI.length∧i= .int .i64 k∧vU x.zI (fun _ l=>sigB l=true) k∧Below w9.heap.size w9 wr) (fun i _=>x.zI.length - (intOf i).toNat)
 case atStart=>exact⟨0,Nat.zero_le _,rfl,vU.zero,zR⟩
 case round=>
  obtain⟨k,hk,rfl,hs,hbw⟩:=hrel;have HS:=xN hs;have HW:=xN hbw;have HB:=xN (yO HB9.o HB9.o.size hbw);clear hs hbw;obtain⟨p0,p1,p2,p3,p4,p5⟩:=pc6 HB.o HL.o HCC.o;have lb:b<wr.heap.size:=zW HL.o HB.o.size;by_cases hlt:k<x.zI.length
  rotate_left
  ·have hall1:=xN (HS.o.all zM);clear HS
   generalize wr=w2 at *;have HB2:=HB;clear HB;go_wp2;clear p0 p1 p2 p3 p4 p5 lb
   go_loopw [4] (fun i wr=> ∃ k:Nat,k≤x.zG.length∧i= .int .i64 k∧vU x.zG (fun i t=>(zAz t∧Each t.zS fun _ c=>c.zV<(x.zI.length:Int))∧ ∀ f,x.zL[i]?=some f→inB f 0 ((x.zH.zC.length:Int) - 1)=true) k∧Below w2.heap.size w2 wr) (fun i _=>x.zG.length - (intOf i).toNat)
   case atStart=>exact⟨0,Nat.zero_le _,rfl,vU.zero,zR⟩
   case round=>
    obtain⟨k,hk,rfl,hs,hbw⟩:=hrel;have HS:=xN hs;have HW:=xN hbw;have HB:=xN (yO HB2.o HB2.o.size hbw);clear hs hbw;obtain⟨p0,p1,p2,p3,p4,p5⟩:=pc6 HB.o HL.o HCC.o;have lb:b<wr.heap.size:=zW HL.o HB.o.size;by_cases hlt:k<x.zG.length
    rotate_left
    ·have hall2:=xN (HS.o.all zM);clear HS
     generalize wr=w3 at *;have HB3:=HB;clear HB;go_wp2;clear p0 p1 p2 p3 p4 p5 lb
     go_loopw [5] (fun i wr=> ∃ k:Nat,k≤x.zK.length∧i= .int .i64 k∧vU x.zK (fun _ p=>wEz p) k∧Below w3.heap.size w3 wr) (fun i _=>x.zK.length - (intOf i).toNat)
     case atStart=>exact⟨0,Nat.zero_le _,rfl,vU.zero,zR⟩
     case round=>
      obtain⟨k,hk,rfl,hs,hbw⟩:=hrel;have HS:=xN hs;have HW:=xN hbw;have HB:=xN (yO HB3.o HB3.o.size hbw);clear hs hbw;obtain⟨p0,p1,p2,p3,p4,p5⟩:=pc6 HB.o HL.o HCC.o;have lb:b<wr.heap.size:=zW HL.o HB.o.size;by_cases hlt:k<x.zK.length
      rotate_left
      ·have hall3:=xN (HS.o.all zM);clear HS
       go_wp2;go_ret
       exact⟨yN (xI ⟨q1,⟨hall1.o,Q2.o⟩,Q3.o,Q4.o,Q5.o,fun i f hf=>by
      have hi:=(List.getElem?_eq_some_iff.1 hf).1;exact xK.1 ((hall2.o i _ (gE (by have:=Q5.o;omega))).2 f hf),Q7.o,fun i t ht=>(hall2.o i t ht).1,hall3.o⟩).symm,HB.o⟩
      have hgk:=gE hlt;obtain⟨b1,off,csy,hA,hb1,hcs,hcell⟩:=HX4.o k x.zK[k] hgk;subst hA;generalize x.zK[k]=y at *;have HG:=xN hgk;clear hgk;have HAy:=xN (T.at_elem (o:=off+k * 4) hb1 (show T.rds w y.fs csy by simpa only[xQ.t,T.rd] using hcs) hcell zM);clear hcs hcell;have n1:((k:Int)<(x.zK.length:Int)):=by omega
      have hq1:b1<wr.heap.size:=zW hb1 HB.o.size;have hny:=(HEF.o y (List.mem_of_getElem? HG.o));have hny1:y.zF.length≤1048576:=hny.2.1.1;have hny2:y.zY.length≤1048576:=hny.1.1;clear hny;obtain⟨lty,csy',hry,hcy⟩:=HAy.o;obtain⟨u1,u2,u3,rfl,hu1,hu2,hu3⟩:=xQ.yT hry;have Ru1:=xN hu1;obtain⟨ua1,uc1,rfl,ul1,um1,ux1⟩:=T.yS hu1;have HXu1:=xN ux1;clear ux1 hu1;have Ru2:=xN hu2;obtain⟨ua2,uc2,rfl,ul2,um2,ux2⟩:=T.yS hu2;have HXu2:=xN ux2;clear ux2 hu2;have Ru3:=xN (T.xB.1 hu3);obtain⟨ua3,uc3,rfl,ul3,um3,ux3⟩:=Ru3.o.open_;have HXu3:=xN ux3;clear ux3 hu3;have HCy:=xN hcy;clear hry hcy;obtain⟨cy0,cy1,cy2,cy3⟩:=pc4 HB.o lty HCy.o;go_wp2_with fail
      refine(c_l27None y _ _ _ (T.at_below HAy.o HB.o)).mono ?_;rintro e w4 ⟨rfl,hb4⟩;have HB4:=xN (yO HB.o HB.o.size hb4);have HW4:=xN (yO HW.o HW.o.size hb4);clear hb4 cy0 cy1 cy2 cy3;clear p0 p1 p2 p3 p4 p5 lb;obtain⟨p0,p1,p2,p3,p4,p5⟩:=pc6 HB4.o HL.o HCC.o;have lb:b<w4.heap.size:=zW HL.o HB4.o.size;obtain⟨cy0,cy1,cy2,cy3⟩:=pc4 HB4.o lty HCy.o;have hq4:b1<w4.heap.size:=zW hb1 HB4.o.size;by_cases q8:y=uO
      ·rw[xI q8];have Q8:=xN q8;clear q8
       go_wp2
       go_roundw
       case rel=>exact⟨k+1,by omega,by go_num,HS.o.step HG.o (.inl Q8.o),HW4.o⟩
       case measure=>simp[intOf];omega
      rw[xH q8];have Q8:=xN q8;clear q8;by_cases q9:y.zU=1
      rotate_left
      ·have b9:(y.zU != 1)=true:=ySz q9;have Q9:=xN q9;clear q9
       go_wp2;go_ret
       exact⟨yN (xH fun h=>(h.effects k y HG.o).elim Q8.o fun h=>Q9.o h.2.1).symm,HB4.o⟩
      have b9:(y.zU != 1)=false:=yTz q9;have Q9:=xN q9;clear q9;by_cases q10:y.zX.length=1
      rotate_left
      ·have b10:((y.zX.length:Int) != 1)=true:=ySz zM;have Q10:=xN q10;clear q10
       go_wp2;go_ret
       exact⟨yN (xH fun h=>(h.effects k y HG.o).elim Q8.o fun h=>Q10.o h.2.2).symm,HB4.o⟩
      have b10:((y.zX.length:Int) != 1)=false:=yTz zM;have Q10:=xN q10;clear q10;go_wp2_with fail
      refine(c_l07Ok y _ _ _ hny1 hny2 (T.at_below HAy.o HB4.o)).mono ?_;rintro e w5 ⟨rfl,hb5⟩;have HB5:=xN (yO HB4.o HB4.o.size hb5);have HW5:=xN (yO HW4.o HW4.o.size hb5);clear hb5;by_cases q11:vZ y
      rotate_left
      ·rw[xH q11];have Q11:=xN q11;clear q11
       go_wp2;go_ret
       exact⟨yN (xH fun h=>(h.effects k y HG.o).elim Q8.o fun h=>Q11.o h.1).symm,HB5.o⟩
      rw[xI q11];have Q11:=xN q11;clear q11;go_wp2
      go_roundw
      case rel=>exact⟨k+1,by omega,by go_num,HS.o.step HG.o (.inr ⟨Q11.o,Q9.o,Q10.o⟩),HW5.o⟩
      case measure=>simp[intOf];omega
    have hgk:=gE hlt;obtain⟨b1,off,csy,hA,hb1,hcs,hcell⟩:=HX2.o k x.zG[k] hgk;subst hA;generalize x.zG[k]=y at *;have HG:=xN hgk;clear hgk;have HAy:=xN (T.at_elem (o:=off+k) hb1 (show T.rds w y.fs csy by simpa only[xS.t,T.rd] using hcs) hcell zM);clear hcs hcell;have n1:((k:Int)<(x.zG.length:Int)):=by omega
    have hltf:k<x.zL.length:=by have:=Q5.o;omega
    have hgf:=gE hltf;obtain⟨b3,off3,hA,hb3,hcf⟩:=HX3.o k x.zL[k] hgf;subst hA;generalize x.zL[k]=fd at *;have HF:=xN hgf;clear hgf;have cf:=(HB.o.cell hb3).trans hcf;have n2:((k:Int)<(x.zL.length:Int)):=by omega
    by_cases q8:zAz y∧Each y.zS fun _ c=>c.zV<(x.zI.length:Int)
    rotate_left
    ·have b8:=xH q8;have Q8:=xN q8;clear q8
     go_wp2;have g0:=yK p0;have g1:=yK p1;have g2:=yK p2;have g3:=yK p3;have g4:=yK p4;have g5:=yK p5;have g6:=yK cf;refine rB ?_
     repeat(first|go_big_quiet_skip|(go_big_quiet_want;go_big_quiet_op;first|go_big_quiet_on|(apply Exists.intro;refine⟨fun _=>?_,?_⟩;(· (first|(go_at_call 67;exact Calls.yP ((wJ _ _ _ _).mono (fun e w' h=>by(first|rw[b9] at h|skip);exact h)))|(go_at_call 70;exact Calls.yQ ((yIy y _ _ _ _ zM zM (T.at_below HAy.o (yO HB.o HB.o.size (yM wr _)))).mono (fun e w' h=>by(first|rw[b8] at h|skip);exact h)))));go_big_quiet_on)))
     refine wpQuiet_nil ?_;rintro w9 ⟨uu,rfl⟩;have hb9:=yM wr uu;generalize bel wr uu=w9 at *;have HB9:=xN (yO HB.o HB.o.size hb9);clear g0 g1 g2 g3 g4 g5 g6;go_wp2;go_ret
     exact⟨yN (xH fun h=>Q8.o (h.tracks k y HG.o)).symm,HB9.o⟩
    have b8:=xI q8;have Q8:=xN q8;clear q8;by_cases q9:inB fd 0 ((x.zH.zC.length:Int) - 1)=true
    rotate_left
    ·have b9:inB fd 0 ((x.zH.zC.length:Int) - 1)=false:=(by simpa using q9)
     go_wp2;have g0:=yK p0;have g1:=yK p1;have g2:=yK p2;have g3:=yK p3;have g4:=yK p4;have g5:=yK p5;have g6:=yK cf;refine rB ?_
     repeat(first|go_big_quiet_skip|(go_big_quiet_want;go_big_quiet_op;first|go_big_quiet_on|(apply Exists.intro;refine⟨fun _=>?_,?_⟩;(· (first|(go_at_call 67;exact Calls.yP ((wJ _ _ _ _).mono (fun e w' h=>by(first|rw[b9] at h|skip);exact h)))|(go_at_call 70;exact Calls.yQ ((yIy y _ _ _ _ zM zM (T.at_below HAy.o (yO HB.o HB.o.size (yM wr _)))).mono (fun e w' h=>by(first|rw[b8] at h|skip);exact h)))));go_big_quiet_on)))
     refine wpQuiet_nil ?_;rintro w9 ⟨uu,rfl⟩;have hb9:=yM wr uu;generalize bel wr uu=w9 at *;have HB9:=xN (yO HB.o HB.o.size hb9);clear g0 g1 g2 g3 g4 g5 g6;go_wp2;go_ret
     exact⟨yN (xH fun h=>q9 (xK.2 (h.feeds k fd HF.o))).symm,HB9.o⟩
    have b9:=q9;go_wp2;have g0:=yK p0;have g1:=yK p1;have g2:=yK p2;have g3:=yK p3;have g4:=yK p4;have g5:=yK p5;have g6:=yK cf;refine rB ?_
    repeat(first|go_big_quiet_skip|(go_big_quiet_want;go_big_quiet_op;first|go_big_quiet_on|(apply Exists.intro;refine⟨fun _=>?_,?_⟩;(· (first|(go_at_call 67;exact Calls.yP ((wJ _ _ _ _).mono (fun e w' h=>by(first|rw[b9] at h|skip);exact h)))|(go_at_call 70;exact Calls.yQ ((yIy y _ _ _ _ zM zM (T.at_below HAy.o (yO HB.o HB.o.size (yM wr _)))).mono (fun e w' h=>by(first|rw[b8] at h|skip);exact h)))));go_big_quiet_on)))
    refine wpQuiet_nil ?_;rintro w9 ⟨uu,rfl⟩;have hb9:=yM wr uu;generalize bel wr uu=w9 at *;have HB9:=xN (yO HB.o HB.o.size hb9);clear g0 g1 g2 g3 g4 g5 g6;have HW9:=xN (yO HW.o HW.o.size hb9);clear hb9;go_wp2
    go_roundw
    case rel=>exact⟨k+1,by omega,by go_num,HS.o.step HG.o ⟨Q8.o,fun f hf=>by rw[HF.o] at hf;injection hf with hf;subst hf;exact q9⟩,HW9.o⟩
    case measure=>simp[intOf];omega
  have hgk:=gE hlt;obtain⟨b1,off,csy,hA,hb1,hcs,hcell⟩:=HX1.o k x.zI[k] hgk;subst hA;generalize x.zI[k]=l at *;have HG:=xN hgk;clear hgk;obtain⟨v3,rfl⟩:=T.rd_one hcs;have d0:=(HB.o.cell hb1).trans (hcell 0 v3 rfl);rw[Nat.mul_one,Nat.add_zero] at d0;have R:=xN (show RdI wr v3 l from Rd.below (T.xB.1 hcs) HB.o);clear hcs hcell;have hq1:b1<wr.heap.size:=zW hb1 HB.o.size;obtain⟨ua,uc,rfl,_,_,_⟩:=R.o.open_;have n1:((k:Int)<(x.zI.length:Int)):=by omega
  cases a8:sigB l
  ·go_wp2_with (go_at_call 69;refine(c_l03Ok _ l _ R.o).mono ?_;rintro e w' ⟨rfl,rfl⟩;rw[a8])
   go_ret
   exact⟨yN (xH fun h=>by have h1:sigB l=true:=h.sources.each k l HG.o;rw[a8] at h1;exact absurd h1 (by simp)).symm,HB.o⟩
  ·go_wp2_with (go_at_call 69;refine(c_l03Ok _ l _ R.o).mono ?_;rintro e w' ⟨rfl,rfl⟩;rw[a8])
   go_roundw
   case rel=>exact⟨k+1,by omega,by go_num,HS.o.step HG.o a8,HW.o⟩
   case measure=>simp[intOf];omega
end
section
open Go.RowKit
end
section
open Go.RowKit
def wM (xs:List Int) (i:Int):Int:=if 0≤i∧i<(xs.length:Int) then xs.getD i.toNat 0 else 0
theorem smpAt_in {xs:List Int} {k:Nat} {x:Int} (h:xs[k]?=some x):wM xs (k:Int)=x:=by
 have hl:=(List.getElem?_eq_some_iff.1 h).1;unfold wM;rw[if_pos ⟨by omega,by omega⟩,Int.toNat_natCast,List.getD_eq_getElem?_getD,h]
 rfl
theorem vUz {xs:List Int} {i:Int} (h: ¬ (0≤i∧i<(xs.length:Int))):wM xs i=0:=by unfold wM;rw[if_neg h]
def cutL (xs:List Int) (from_:Int) (n:Nat):List Int:=(List.range n).map fun(k:Nat)=>wM xs (from_+(k:Int))
theorem uZz (xs:List Int) (f:Int) (n:Nat):(cutL xs f n).length=n:=by simp[cutL]
theorem cutL_snoc (xs:List Int) (f:Int) (n:Nat):cutL xs f (n+1)=cutL xs f n++ [wM xs (f+(n:Int))]:=by
 unfold cutL;rw[List.range_succ,List.map_append];rfl
theorem c_l03At (v:Value) (xs:List Int) (i:Int) (w:World) (hr:RdI w v xs):Calls Tryz.prog 115 #[v,.int .i64 i] w fun e w'=>e= .returned (.int .i64 (wM xs i))∧w=w':=by
 obtain⟨A,cap,rfl,hl,hc,hx⟩:=hr.open_;have HX:=xN hx;clear hx hr;by_cases hin:0≤i∧i<(xs.length:Int)
 ·have hq:inB i 0 ((xs.length:Int) - 1)=true:=xK.2 zM
  obtain⟨k,rfl⟩: ∃ k:Nat,i=(k:Int):=⟨i.toNat,by omega⟩;have hlt:k<xs.length:=by omega
  have hgk:=gE hlt;obtain⟨b,off,rfl,hb,hcell⟩:=HX.o k xs[k] hgk;generalize xs[k]=y at *;have HG:=xN hgk;clear hgk;have n1:((k:Int)<(xs.length:Int)):=by omega
  have HS:=xN (smpAt_in HG.o);clear hin
  go_enter Tryz.func115,Tryz.ntmps115
  go_wp2_with (go_at_call 67;refine(wJ _ _ _ _).mono ?_;rintro e w' ⟨rfl,rfl⟩)
  go_ret
  exact⟨vN HS.o.symm,rfl⟩
 ·have hq:inB i 0 ((xs.length:Int) - 1)=false:=zNy.2 zM
  have HS:=xN (vUz (xs:=xs) hin);clear hin
  go_enter Tryz.func115,Tryz.ntmps115
  go_wp2_with (go_at_call 67;refine(wJ _ _ _ _).mono ?_;rintro e w' ⟨rfl,rfl⟩)
  go_ret
  exact⟨vN HS.o.symm,rfl⟩
theorem c_l03Slice (v:Value) (xs:List Int) (f:Int) (n:Nat) (w:World) (h0: -1048576≤f) (h1:f≤1048576) (hn:n≤1048576) (hr:RdI w v xs):Calls Tryz.prog 74 #[v,.int .i64 f,.int .i64 (n:Int)] w fun e w'=> ∃ v',e= .returned v'∧OwI 2 w' w.heap.size v' (cutL xs f n)∧Below w.heap.size w w':=by
 have HR:=xN hr;have HN0:=xN (vP w);have HA0:=xN (show Below w.heap.size w (w.alloc (.cells #[] 2)) from zR.alloc zJ _);obtain⟨A,cap,rfl,hl,hc,hx⟩:=hr.open_;clear hx hr
 go_enter Tryz.func74,Tryz.ntmps74
 go_wp2
 go_loopw [7,8] (fun r i wr=> ∃ k:Nat,k≤n∧i= .int .i64 k∧OwI 2 wr w.heap.size r (cutL xs f k)∧Below w.heap.size w wr) (fun _ i _=>n - (intOf i).toNat)
 case atStart=>exact⟨0,Nat.zero_le _,rfl,HN0.o,HA0.o⟩
 case round=>
  obtain⟨k,hk,rfl,ho,hbw⟩:=hrel;have HO:=xN ho;have HB:=xN hbw;have hsz:=hbw.size;clear ho hbw;by_cases hlt:k<n
  ·have e1:IntKind.i64.wrap (f+(k:Int))=f+(k:Int):=IntWalk.i64_in _ zM
   have hll:(cutL xs f k).length+1≤17592186044416:=by rw[uZz];omega
   go_wp2_with (first|(go_at_call 115;refine(c_l03At _ xs _ _ (Rd.below HR.o HB.o)).mono ?_;rintro e w' ⟨rfl,rfl⟩)|(at_builtin;refine yGz (n:=wM xs (f+(k:Int))) rfl _ _ rfl rfl HO.o rfl hll hsz ?_;intro v8 w8 ho8 hg8 hv8;have HO8:=xN ho8;have HB8:=xN (HB.o.grown hg8 hsz (fun j hj=>(HO.o.lt j hj).1));clear ho8 hg8 hv8))
   go_roundw
   case rel=>exact⟨k+1,by omega,by go_num,by rw[cutL_snoc];exact HO8.o,HB8.o⟩
   case measure=>simp[intOf];omega
  ·obtain rfl:k=n:=by omega
   go_wp2;go_ret
   exact⟨_,rfl,HO.o,HB.o⟩
end
section
open Go.RowKit
theorem zVz {α:Type} {l:List α} {i:Nat} {x d:α} (h:i<l.length):(l.set i x).getD i d=x:=by
 rw[List.getD_eq_getElem?_getD,List.getElem?_set_self h];rfl
theorem wJz {α:Type} {l:List α} {i j:Nat} {x d:α} (h:i≠j):(l.set i x).getD j d=l.getD j d:=by
 rw[List.getD_eq_getElem?_getD,List.getElem?_set_ne h,List.getD_eq_getElem?_getD]
def noiseF (s:Int):Int:=
 if (s % 4294967296) % 2=1 then wrp (((s % 4294967296 / 2).toNat ^^^ 2734686208:Nat):Int) else wrp (s % 4294967296 / 2)
def inF (n:xR) (frame vals:List Int):List Int:=if n.zD=1 then [frame.getD n.fA.toNat 0] else n.zO.map fun i=>vals.getD i.toNat 0
def lookF (t:List Int) (a:Int):Int:=t.getD ((t.length:Int) * (a % 4294967296) / 4294967296).toNat 0
def uB (n:xR) (tables:List (List Int)) (ins s:List Int):Int:=
 if n.zD=1 then ins.getD 0 0
 else if n.zD=2 then n.fA
 else if n.zD=3 then wrp (ins.getD 0 0+ins.getD 1 0)
 else if n.zD=4 then wrp (ins.getD 0 0 - ins.getD 1 0)
 else if n.zD=5 then wrp (n.fA * ins.getD 0 0)
 else if n.zD=6 then s.getD 0 0
 else if n.zD=7 then wrp (s.getD 0 0+ins.getD 0 0)
 else if n.zD=8 then wrp (ins.getD 0 0 - s.getD 0 0)
 else if n.zD=9 then wrp (ins.getD 0 0 * ins.getD 1 0)
 else if n.zD=10 then ins.getD 0 0 / ((2 ^ n.fA.toNat:Nat):Int)
 else if n.zD=11 then max (-n.fA) (min n.fA (ins.getD 0 0))
 else if n.zD=12 then s.getD 0 0
 else if n.zD=13 then lookF (tables.getD n.fA.toNat []) (ins.getD 0 0)
 else if n.zD=14 then s.getD 0 0
 else if n.zD=15 then (if 0≤ins.getD 0 0 then ins.getD 1 0 else ins.getD 2 0)
 else if n.zD=16 then (if 0<ins.getD 1 0 then ins.getD 0 0 else s.getD 0 0)
 else wrp (ins.getD 0 0+n.fA * s.getD 0 0)
def wF (n:xR) (ins s:List Int) (out:Int):List Int:=
 if n.zD=6 then s.drop 1++ [ins.getD 0 0]
 else if n.zD=17 then s.drop 1++ [out]
 else if n.zD=7 then [out]
 else if n.zD=16 then [out]
 else if n.zD=8 then [ins.getD 0 0]
 else if n.zD=12 then [wrp (s.getD 0 0+ins.getD 0 0)]
 else if n.zD=14 then [noiseF (s.getD 0 0)]
 else []
section
variable (p:xQ) (cells:List (List Int)) (frame:List Int)
def yRz (vals:List Int) (i:Int):List Int:=
 match p.zF[i.toNat]? with
 |some n=>vals.set i.toNat (uB n p.zY (inF n frame vals) (cells.getD i.toNat []))
 |none=>vals
def uD (l:List Int) (v:List Int):List Int:=l.foldl (yRz p cells frame) v
def wKz:List Int:=uD p cells frame (xY p.zF) (List.replicate p.zF.length 0)
def cellN (vals:List Int) (i:Nat) (n:xR):List Int:=wF n (inF n frame vals) (cells.getD i []) (vals.getD i 0)
def yUz (vals:List Int):List (List Int):=p.zF.mapIdx fun i n=>cellN cells frame vals i n
end
section
variable {p:xQ} {cells:List (List Int)} {frame:List Int}
theorem length_valStep (v:List Int) (i:Int):(yRz p cells frame v i).length=v.length:=by
 unfold yRz;split<;>simp
theorem yZz (l:List Int): ∀ v,(uD p cells frame l v).length=v.length:=by
 induction l with
 |nil=>intro v;rfl
 |cons i l ih=>intro v;show (uD p cells frame l (yRz p cells frame v i)).length=_;rw[ih,length_valStep]
theorem length_valsF:(wKz p cells frame).length=p.zF.length:=by unfold wKz;rw[yZz,List.length_replicate]
theorem zAy (l:List Int) (i:Int) (v:List Int):uD p cells frame (l++ [i]) v=yRz p cells frame (uD p cells frame l v) i:=by
 unfold uD;rw[List.foldl_append];rfl
theorem vMz {v:List Int} {i:Int} {x:Nat} (h:x≠i.toNat):(yRz p cells frame v i).getD x 0=v.getD x 0:=by
 unfold yRz
 split
 ·rw[List.getD_eq_getElem?_getD,List.getElem?_set_ne (fun e=>h e.symm),List.getD_eq_getElem?_getD]
 ·rfl
theorem valsOf_other {l:List Int} {x:Nat} : ∀ {v:List Int},(∀ i ∈ l,x≠i.toNat)→(uD p cells frame l v).getD x 0=v.getD x 0:=by
 induction l with
 |nil=>intro v _;rfl
 |cons i l ih=>
  intro v h
  show (uD p cells frame l (yRz p cells frame v i)).getD x 0=_
  rw[ih (fun j hj=>h j (by simp[hj])),vMz (h i (by simp))]
end
theorem yBy {nodes:List xR} (k:Nat): ∀ m,(xJ nodes (k+m)).length≤(xJ nodes k).length+m
 |0=>zJ
 |m+1=>by
  have ih:=yBy (nodes:=nodes) k m;rw[←Nat.add_assoc];simp only[xJ]
  split
  ·simp;omega
  ·omega
theorem uGz {nodes:List xR} (h:(xY nodes).length=nodes.length) {k:Nat} (hk:k≤nodes.length):(xJ nodes k).length=k:=by
 have h1:=yRy (nodes:=nodes) k;have h2:=yBy (nodes:=nodes) k (nodes.length - k);rw[show k+(nodes.length - k)=nodes.length by omega] at h2;unfold xY at h
 omega
theorem order_next {nodes:List xR} (h:(xY nodes).length=nodes.length) {k:Nat} (hk:k<nodes.length): ∃ i,vRz nodes (xJ nodes k)=some i∧xJ nodes (k+1)=xJ nodes k++ [(i:Int)]:=by
 cases hn:vRz nodes (xJ nodes k) with
 |some i=>exact⟨i,rfl,vLz hn⟩
 |none=>
  have h1:=uGz h (k:=k+1) zM;have h2:=uGz h (k:=k) zM;rw[zZy hn 1] at h1
  omega
theorem uHz {nodes:List xR} (h:(xY nodes).length=nodes.length): ∀ m k,k+m=nodes.length→(xY nodes).take k=xJ nodes k
 |0,k,e=>by
  have:k=nodes.length:=by omega
  subst this;unfold xY at h ⊢;rw[List.take_of_length_le zM]
 |m+1,k,e=>by
  obtain⟨i,_,h2⟩:=order_next h (k:=k) zM;have ih:=uHz h m (k+1) zM;have h3:=uGz h (k:=k) zM;have:(xY nodes).take k=((xY nodes).take (k+1)).take k:=by rw[List.take_take];congr 1;omega
  rw[this,ih,h2,List.take_append_of_le_length zM,List.take_of_length_le zM]
theorem yUy {nodes:List xR} (h:(xY nodes).length=nodes.length) {k:Nat} {i:Int} (hk:(xY nodes)[k]?=some i):
  ∃ n:xR,0≤i∧nodes[i.toNat]?=some n∧i ∉ (xY nodes).take k∧ ∀ f ∈ zBz n,f ∈ (xY nodes).take k:=by
 have hl:k<nodes.length:=by have:=(List.getElem?_eq_some_iff.1 hk).1;omega
 obtain⟨j,h1,h2⟩:=order_next h hl;have h3:=uGz h (k:=k) zM;have e:(xY nodes).take (k+1)=(xY nodes).take k++ [i]:=by rw[List.take_add_one,hk];rfl
 rw[uHz h (nodes.length - (k+1)) (k+1) zM,uHz h (nodes.length - k) k zM,h2] at e;obtain rfl:(j:Int)=i:=by simpa using e
 obtain⟨h4,h5⟩:=nextF_inv h1;rw[uHz h (nodes.length - k) k zM];unfold yNz at h5;rw[gE h4] at h5;simp only[Option.map_some,Option.getD_some,Bool.and_eq_true,Bool.not_eq_true',List.all_eq_true] at h5;refine⟨nodes[j],by omega,by rw[Int.toNat_natCast];exact gE h4,?_,fun f hf=>?_⟩
 ·have:=h5.1;simpa using this
 ·have:=h5.2 f hf;simpa using this
section
variable {p:xQ} {cells:List (List Int)} {frame:List Int}
structure PlayOk (p:xQ):Prop where
 order:(xY p.zF).length=p.zF.length
 from_:Each p.zF fun _ x=>Idx x.zO (p.zF.length:Int)
theorem vZ.play (h:vZ p):PlayOk p:=⟨h.order,fun i x hx=>(h.formed.nodes i x hx).2.1⟩
theorem inF_same {n:xR} {v v':List Int} (h: ∀ f ∈ n.zO,v.getD f.toNat 0=v'.getD f.toNat 0):inF n frame v=inF n frame v':=by
 unfold inF
 split
 ·rfl
 ·exact List.map_congr_left h
theorem vals_prefix (h:PlayOk p) {v:List Int} (hv:v.length=p.zF.length): ∀ k,k≤p.zF.length→ ∀ x ∈ (xY p.zF).take k,
  (uD p cells frame ((xY p.zF).take k) v).getD x.toNat 0=(wKz p cells frame).getD x.toNat 0:=by
 -- both begin alike
 have key: ∀ (u:List Int),u.length=p.zF.length→ ∀ k,k≤p.zF.length→ ∀ x ∈ (xY p.zF).take k,(uD p cells frame ((xY p.zF).take k) u).getD x.toNat 0=(uD p cells frame ((xY p.zF).take k) (List.replicate p.zF.length 0)).getD x.toNat 0:=by
  intro u hu k
  induction k with
  |zero=>intro _ x hx;simp at hx
  |succ k ih=>
   intro hk x hx;have hlt:k<(xY p.zF).length:=by rw[h.order];omega
   have hg:=gE hlt;generalize (xY p.zF)[k]=i at hg;obtain⟨n,h0,h1,h2,h3⟩:=yUy h.order hg;have ht:(xY p.zF).take (k+1)=(xY p.zF).take k++ [i]:=by rw[List.take_add_one,hg];rfl
   rw[ht] at hx ⊢;rw[zAy,zAy];have ih':=ih zM;by_cases e:x.toNat=i.toNat
   ·rw[e]
    have hi:i.toNat<p.zF.length:=(List.getElem?_eq_some_iff.1 h1).1;unfold yRz;rw[h1];dsimp only;rw[zVz (by rw[yZz,hu];exact hi),zVz (by rw[yZz,List.length_replicate];exact hi)];by_cases h6:n.zD=6
    ·unfold uB
     simp[h6]
    ·rw[inF_same (fun f hf=>ih' f (h3 f (by unfold zBz;rw[if_neg h6];exact hf)))]
   ·rw[vMz e,vMz e]
    rcases List.mem_append.1 hx with hx|hx
    ·exact ih' x hx
    ·simp at hx;subst hx;exact absurd rfl e
 intro k hk x hx;rw[key v hv k hk x hx];have hs:xY p.zF=(xY p.zF).take k++(xY p.zF).drop k:=(List.take_append_drop _ _).symm
 have hf:wKz p cells frame=uD p cells frame ((xY p.zF).drop k) (uD p cells frame ((xY p.zF).take k) (List.replicate p.zF.length 0)):=by
  unfold wKz
  conv=>lhs;rw[hs]
  unfold uD;rw[List.foldl_append]
 rw[hf];refine(valsOf_other (fun i hi e=>?_)).symm;have hn:=(vFz (nodes:=p.zF) p.zF.length);have hnd:(xY p.zF).Nodup:=hn.1;rw[hs,List.nodup_append] at hnd;have hx0:=hn.2 x (List.mem_of_mem_take hx);have hi0:=hn.2 i (List.mem_of_mem_drop hi);exact hnd.2.2 x hx i hi zM
theorem in_turn (h:PlayOk p) {v:List Int} (hv:v.length=p.zF.length) {k:Nat} {i:Int} {n:xR} (hk:(xY p.zF)[k]?=some i) (hn:p.zF[i.toNat]?=some n) (h6:n.zD≠6):
  inF n frame (uD p cells frame ((xY p.zF).take k) v)=inF n frame (wKz p cells frame):=by
 obtain⟨n',_,h1,_,h3⟩:=yUy h.order hk;rw[hn] at h1;injection h1 with h1;subst h1;refine inF_same (fun f hf=>?_);exact vals_prefix h hv k (by have:=(List.getElem?_eq_some_iff.1 hk).1;rw[h.order] at this;omega) f (h3 f (by unfold zBz;rw[if_neg h6];exact hf))
end
def wW (n:xR):List Int:=
 if n.zD=6 then List.replicate n.fA.toNat 0
 else if n.zD=17 then List.replicate n.fB.toNat 0
 else if n.zD=7∨n.zD=8∨n.zD=16 then [0]
 else if n.zD=12∨n.zD=14 then [n.fA]
 else []
section
variable (p:xQ) (ins:List (List Int))
def yDz (t:Nat):List Int:=ins.map fun l=>wM l (t:Int)
def zUz:Nat→List (List Int)
 |0=>p.zF.map wW
 |t+1=>yUz p (zUz t) (yDz ins t) (wKz p (zUz t) (yDz ins t))
def yKz (t:Nat):List Int:=wKz p (zUz p ins t) (yDz ins t)
def renderF (n:Nat):List (List Int):=p.zX.map fun o=>(List.range n).map fun t=>(yKz p ins t).getD o.toNat 0
end
end
section
open Go.RowKit
theorem c_l07Map (v u:Value) (l vals:List Int) (w:World) (hl:RdI w v l) (hv:RdI w u vals) (hi:Idx l (vals.length:Int)) (hn:l.length≤1048576):Calls Tryz.prog 178 #[v,u] w fun e w'=> ∃ v',e= .returned v'∧OwI 2 w' w.heap.size v' (l.map fun i=>vals.getD i.toNat 0)∧Below w.heap.size w w':=by
 have HI:=xN hi;obtain⟨A,cap,rfl,hln,hm,hx⟩:=hl.open_;obtain⟨A2,cap2,rfl,hln2,hm2,hx2⟩:=hv.open_;have HX:=xN hx;have HX2:=xN hx2;clear hx hx2 hi hl hv
 go_enter Tryz.func178,Tryz.ntmps178
 go_wp2
 go_loopw [5,6] (fun o i wr=> ∃ k:Nat,k≤l.length∧i= .int .i64 (k:Int)∧OwI 2 wr w.heap.size o ((l.take k).map fun i=>vals.getD i.toNat 0)∧Below w.heap.size w wr) (fun _ i _=>l.length - (intOf i).toNat)
 case atStart=>exact⟨0,Nat.zero_le _,rfl,vP w,zR.alloc zJ _⟩
 case round=>
  obtain⟨k,hk,rfl,ho,hb⟩:=hrel;have HO:=xN ho;have HB:=xN hb;have hsz:=hb.size;clear ho hb;by_cases hlt:k<l.length
  ·have hgk:=gE hlt
   obtain⟨b,off,rfl,hb1,hc⟩:=HX.o k l[k] hgk;have hii:=HI.o k _ hgk;have d0:=(HB.o.cell hb1).trans hc;have hb2:b<wr.heap.size:=zW hb1 HB.o.size;generalize l[k]=i at *;have HGK:=xN hgk;clear hgk hc;have hj:i.toNat<vals.length:=by omega
   have hgj:=gE hj;obtain⟨b4,off4,rfl,hb3,hc3⟩:=HX2.o i.toNat _ hgj;have d1:=(HB.o.cell hb3).trans hc3;have hb4:b4<wr.heap.size:=zW hb3 HB.o.size;generalize vals[i.toNat]=x at *;have HGJ:=xN hgj;clear hgj hc3;have n0:0≤i:=hii.1;have n1:i<(vals.length:Int):=by omega
   have hlen:((l.take k).map fun i=>vals.getD i.toNat 0).length+1≤17592186044416:=by rw[List.length_map,List.length_take];omega
   go_wp2_with (at_builtin;refine yGz rfl _ _ rfl rfl HO.o rfl hlen hsz ?_;intro v5 w5 ho5 hg5 hv5;have hb5:=zOz HB.o HO.o hg5 zJ hsz;have HO5:=xN ho5;have HB5:=xN hb5;clear ho5 hb5 hg5 hv5)
   go_roundw
   case rel=>exact⟨k+1,by omega,by go_num,by rw[vG HGK.o,List.map_append,List.map_cons,List.map_nil,List.getD_eq_getElem?_getD (l:=vals),HGJ.o];exact HO5.o,HB5.o⟩
   case measure=>simp[intOf];omega
  ·obtain rfl:k=l.length:=by omega
   go_wp2;go_ret
   exact⟨_,rfl,by have:=HO.o;rwa [List.take_length] at this,HB.o⟩
theorem c_mAdd (a b:Int) (w:World) (ha:Smp a) (hb:Smp b):Calls Tryz.prog 142 #[.int .i64 a,.int .i64 b] w fun e w'=>e= .returned (.int .i64 (wrp (a+b)))∧w=w':=by
 have e1:=xVz ha;have e2:=xVz hb;have HE1:=xN e1;have HE2:=xN e2;clear e1 e2;unfold Smp at ha hb
 go_enter Tryz.func142,Tryz.ntmps142
 go_wp2_with fail
 refine(yHz _ _).mono ?_;rintro e w' ⟨rfl,rfl⟩;rw[HE1.o];go_wp2_with fail
 refine(yHz _ _).mono ?_;rintro e w' ⟨rfl,rfl⟩;rw[HE2.o];go_wp2_with fail
 refine(yHz _ _).mono ?_;rintro e w' ⟨rfl,rfl⟩;go_wp2;go_ret
 exact⟨rfl,rfl⟩
theorem smp_mul {a b:Int} (ha:Smp a) (hb:Smp b): -4611686018427387904≤a * b∧a * b≤4611686018427387904:=by
 unfold Smp at *
 have h:(a * b).natAbs≤4611686018427387904:=by
  rw[Int.natAbs_mul];have h1:a.natAbs≤2147483648:=by omega
  have h2:b.natAbs≤2147483648:=by omega
  exact Nat.mul_le_mul h1 h2
 omega
theorem zBy (a b:Int) (w:World) (ha:Smp a) (hb:Smp b):Calls Tryz.prog 143 #[.int .i64 a,.int .i64 b] w fun e w'=>e= .returned (.int .i64 (wrp (a * b)))∧w=w':=by
 have h:=smp_mul ha hb;have ea:wrp a=a:=xVz ha;have eb:wrp b=b:=xVz hb;have hw:IntKind.i64.wrap (a * b)=a * b:=IntWalk.i64_in _ zM;have EA:=xN ea;have EB:=xN eb;clear ea eb ha hb
 go_enter Tryz.func143,Tryz.ntmps143
 go_wp2_with fail
 refine(yHz _ _).mono ?_;rintro e w' ⟨rfl,rfl⟩;rw[EA.o];go_wp2_with fail
 refine(yHz _ _).mono ?_;rintro e w' ⟨rfl,rfl⟩;rw[EB.o];go_wp2_with fail
 refine(yHz _ _).mono ?_;rintro e w' ⟨rfl,rfl⟩;go_wp2;go_ret
 exact⟨rfl,rfl⟩
theorem noise_facts (s:Int): ∃ u:Int,s % 4294967296=u∧0≤u∧u<4294967296∧bits .and .i64 s 4294967295=u∧bits .and .i64 u 1=u % 2∧bits .xor .i64 (u / 2) 2734686208=(((u / 2).toNat ^^^ 2734686208:Nat):Int)∧noiseF s=(if u % 2=1 then wrp (((u / 2).toNat ^^^ 2734686208:Nat):Int) else wrp (u / 2)):=by
 refine⟨s % 4294967296,rfl,by omega,by omega,and_32 s,and_1 _,?_,rfl⟩;have h:=bits_xor_nat (s % 4294967296 / 2).toNat 2734686208 zM zM;rw[show (((s % 4294967296 / 2).toNat:Nat):Int)=s % 4294967296 / 2 by omega] at h;exact h
theorem c_l06Noise (s:Int) (w:World):Calls Tryz.prog 179 #[.int .i64 s] w fun e w'=>e= .returned (.int .i64 (noiseF s))∧w=w':=by
 obtain⟨u,hu,u0,u1,ha,h1,hx,hn⟩:=noise_facts s;have HN:=xN hn;clear hn hu;generalize hX:(((u / 2).toNat ^^^ 2734686208:Nat):Int)=X at *;clear hX;generalize noiseF s=N at *;by_cases ho:u % 2=1
 ·have q:(u % 2 == 1)=true:=xA ho
  have HE:=xN (HN.o.trans (if_pos ho));clear ho HN
  go_enter Tryz.func179,Tryz.ntmps179
  go_wp2_with (go_at_call 82;refine(yHz _ _).mono ?_;rintro e w' ⟨rfl,rfl⟩)
  go_ret
  exact⟨vN (by rw[HE.o]),rfl⟩
 ·have q:(u % 2 == 1)=false:=yZ ho
  have HE:=xN (HN.o.trans (if_neg ho));clear ho HN
  go_enter Tryz.func179,Tryz.ntmps179
  go_wp2_with (go_at_call 82;refine(yHz _ _).mono ?_;rintro e w' ⟨rfl,rfl⟩)
  go_ret
  exact⟨vN (by rw[HE.o]),rfl⟩
theorem look_facts (t:List Int) (a:Int) (h0:0<t.length) (hn:t.length≤16): ∃ (u:Int) (j:Nat),a % 4294967296=u∧bits .and .i64 a 4294967295=u∧0≤u∧u<4294967296∧IntKind.i64.wrap ((t.length:Int) * u)=(t.length:Int) * u∧(t.length:Int) * u / 4294967296=(j:Int)∧j<t.length∧lookF t a=t.getD j 0:=by
 have hu0:0≤a % 4294967296:=by omega
 have hu1:a % 4294967296<4294967296:=by omega
 generalize hu:a % 4294967296=u at *;have h1:0≤(t.length:Int) * u:=Int.mul_nonneg zM hu0;have h2:(t.length:Int) * u≤(t.length:Int) * 4294967295:=Int.mul_le_mul_of_nonneg_left zM zM;have h3:(t.length:Int) * u / 4294967296<t.length:=by omega
 refine⟨u,((t.length:Int) * u / 4294967296).toNat,rfl,by rw[and_32,hu],hu0,hu1,IntWalk.i64_in _ zM,by omega,by omega,?_⟩;unfold lookF;rw[hu]
theorem c_l06Look (v:Value) (t:List Int) (a:Int) (w:World) (hr:RdI w v t) (h0:0<t.length) (hn:t.length≤16):Calls Tryz.prog 177 #[v,.int .i64 a] w fun e w'=>e= .returned (.int .i64 (lookF t a))∧w=w':=by
 obtain⟨u,j,hu,ha,u0,u1,hw,hj,hjl,hL⟩:=look_facts t a h0 hn;have HL:=xN hL;clear hL hu;obtain⟨A,cap,rfl,hln,hm,hx⟩:=hr.open_;have hgj:=gE hjl;obtain⟨b,off,rfl,hb,hc⟩:=hx j _ hgj;have HE:=xN (show t.getD j 0=t[j] by rw[List.getD_eq_getElem?_getD,hgj];rfl);generalize t[j]=y at *;clear hx hgj hr;generalize hM:(t.length:Int) * u=M at *;generalize lookF t a=N at *
 go_enter Tryz.func177,Tryz.ntmps177
 go_wp2;go_ret
 exact⟨vN (by rw[HL.o,HE.o]),rfl⟩
end
end Go.Proofs.YtdcofkabaigjpaaGreat
