/- Contracts: the fields of an edit, program. Contract: l31Fields. Contracts: states, by the reference. Contracts: sums and delays of signals, both sides. Contracts: delays of signals; what a node gets in a frame, both sides. Contract: what a node gets in a frame, by the program's player. Regions that draw their order and end in one store over a cell that they have loaded. No program is named here. The player's memory; a frame, by the program. The mix of a valid session: lengths, samples, waits. Rows of numbers that a call owns, laid open. Memory while a mix is made: the inputs of all strips, the outputs, the times at which they are right. Contracts: nested data laid anew. Draws: signals, tables, nodes. Drawn regions: three operations of which each may come up; one that comes last. No program is named here. Draws: a node. -/
import Derived.Test.YtdcofkabaigjpaaGreatQAkUndone
import Derived.Test.YtdcofkabaigjpaaGreatQAgUndone
import Derived.Test.YtdcofkabaigjpaaGreatQAdUndone
import Derived.Test.YtdcofkabaigjpaaGreatQAfUndone
import Derived.Test.YtdcofkabaigjpaaGreatQAjUndone
import Derived.Test.YtdcofkabaigjpaaGreatQAcUndone
import Derived.Deep.RegionHeldLaw
import Derived.StillTail
import Derived.Test.YtdcofkabaigjpaaGreatQAbUndone
import Derived.Test.YtdcofkabaigjpaaGreatQAaUndone
import Derived.Test.YtdcofkabaigjpaaGreatQAhUndone
set_option linter.unusedVariables false
set_option linter.unusedSimpArgs false
set_option maxHeartbeats 4000000
set_option maxRecDepth 100000
namespace Go.Proofs.YtdcofkabaigjpaaGreat
section
open Go.RowKit
theorem c_isEdit (x:xS) (cs:List Value) (w:World) (h:T.rds w x.fs cs):Calls Tryz.prog 59 #[.agg cs.toArray] w fun e w'=>e= .returned (.bool (tf (wK x)))∧Below w.heap.size w w':=by
 obtain rfl:=xS.yR h;clear h;have HB0:=xL (show Below w.heap.size w (w.alloc (.cells #[.int .i64 x.zC,.int .i64 x.yB,.int .i64 x.yF,.int .i64 x.yD,.int .i64 x.zY.zX,.int .i64 x.zY.zK,.int .i64 x.zY.zA,.int .i64 x.zY.yE,.int .i64 x.zY.zZ] 41)) from zR.alloc zJ _);have HK0:=xL (Bk.born w 41 #[.int .i64 x.zC,.int .i64 x.yB,.int .i64 x.yF,.int .i64 x.yD,.int .i64 x.zY.zX,.int .i64 x.zY.zK,.int .i64 x.zY.zA,.int .i64 x.zY.yE,.int .i64 x.zY.zZ]);have heq: ∀ w,(Op.equalIn 10000 39 (.agg #[.int .i64 x.zY.zX,.int .i64 x.zY.zK,.int .i64 x.zY.zA,.int .i64 x.zY.yE,.int .i64 x.zY.zZ]) (.agg #[.int .i64 0,.int .i64 0,.int .i64 0,.int .i64 0,.int .i64 0])).run Tryz.prog w= .ok (decide (x.zY=zAz)) w:=eq_Clip 9998 x.zY zAz;have hgd:=eqg_Clip;have BN:=xL (@fieldsB_new x);have BR:=xL (@fieldsB_rem x);have BF:=xL (@wZz x);have BS:=xL (@vAz x);have B0:=xL (@vBz x);generalize hne:decide (x.zY=zAz)=ne at *;clear hne;generalize hco:tf (zMz x.zY)=co at *;have HCO:=xL hco;clear hco
 go_enter Tryz.func59,Tryz.ntmps59
 by_cases k1:x.zC=1
 ·have q1:(x.zC == 1)=true:=yY k1
  have HE:=xL (BN.out (.inl k1));clear k1;by_cases z:x.yD=0
  ·have hz:(x.yD == 0)=true:=yY z
   have HZ:=xL (decide_eq_true z);clear z;go_wp2_with (go_at_call 88;refine(yLz x.zY _ _ xR.rd_mk).mono ?_;rintro e w2 ⟨rfl,hb2⟩;rw[HCO.out];have HB2:=xL (yM HB0.out HB0.out.size hb2);clear hb2)
   go_ret
   exact⟨yK (by rw[HE.out,HZ.out];rfl),HB2.out⟩
  ·have hz:(x.yD == 0)=false:=yX z
   have HZ:=xL (decide_eq_false z);clear z;go_wp2;go_ret
   exact⟨yK (by rw[HE.out,HZ.out];rfl),HB0.out⟩
 have q1:(x.zC == 1)=false:=yX k1;by_cases k3:x.zC=3
 ·have q3:(x.zC == 3)=true:=yY k3
  have HE:=xL (BN.out (.inr k3));clear k3;by_cases z:x.yD=0
  ·have hz:(x.yD == 0)=true:=yY z
   have HZ:=xL (decide_eq_true z);clear z;go_wp2_with (go_at_call 88;refine(yLz x.zY _ _ xR.rd_mk).mono ?_;rintro e w2 ⟨rfl,hb2⟩;rw[HCO.out];have HB2:=xL (yM HB0.out HB0.out.size hb2);clear hb2)
   go_ret
   exact⟨yK (by rw[HE.out,HZ.out];rfl),HB2.out⟩
  ·have hz:(x.yD == 0)=false:=yX z
   have HZ:=xL (decide_eq_false z);clear z;go_wp2;go_ret
   exact⟨yK (by rw[HE.out,HZ.out];rfl),HB0.out⟩
 have q3:(x.zC == 3)=false:=yX k3;by_cases k2:x.zC=2
 ·have q2:(x.zC == 2)=true:=yY k2
  have HE:=xL (BR.out k2);clear k2;by_cases z:x.yD=0
  ·have hz:(x.yD == 0)=true:=yY z
   have HZ:=xL (decide_eq_true z);clear z;go_wp2;go_ret
   exact⟨yK (by rw[HE.out,HZ.out];rfl),HB0.out⟩
  ·have hz:(x.yD == 0)=false:=yX z
   have HZ:=xL (decide_eq_false z);clear z;go_wp2;go_ret
   exact⟨yK (by rw[HE.out,HZ.out];rfl),HB0.out⟩
 have q2:(x.zC == 2)=false:=yX k2;by_cases k4:x.zC=4
 ·have q4:(x.zC == 4)=true:=yY k4
  have HE:=xL (BF.out k4);clear k4;by_cases z:x.yF=0
  ·have hz:(x.yF == 0)=true:=yY z
   have HZ:=xL (decide_eq_true z);clear z;go_wp2;go_ret
   exact⟨yK (by rw[HE.out,HZ.out];rfl),HB0.out⟩
  ·have hz:(x.yF == 0)=false:=yX z
   have HZ:=xL (decide_eq_false z);clear z;go_wp2;go_ret
   exact⟨yK (by rw[HE.out,HZ.out];rfl),HB0.out⟩
 have q4:(x.zC == 4)=false:=yX k4;by_cases k5:x.zC=5
 ·have q5:(x.zC == 5)=true:=yY k5
  have HE:=xL (BS.out k5);clear k5;go_wp2;go_ret
  exact⟨yK HE.out.symm,HB0.out⟩
 have q5:(x.zC == 5)=false:=yX k5;have HE:=xL (B0.out (fun h=>h.elim k1 k3) k2 k4 k5);clear k1 k2 k3 k4 k5;go_wp2;go_ret
 exact⟨yK HE.out.symm,HB0.out⟩
end
section
open Go.RowKit
theorem c_l31Fields (x:xS) (b o:Nat) (w:World) (h:T.at w x.fs b o):Calls Tryz.prog 43 #[.pointer (some ⟨b,o,none⟩)] w fun e w'=>e= .returned (.bool (tf (wK x)))∧Below w.heap.size w w':=by
 have HAT:=xL h;obtain⟨hlt0,cs,hr,hc⟩:=h;obtain rfl:=xS.yR hr;clear hr;have HL:=xL hlt0;have HCC:=xL hc;have HB0:=xL (Below.refl w.heap.size w);clear hlt0 hc;have HATN:=xL (show T.at w x.zY.fs b (o+4) from T.at_sub [.int .i64 x.zC,.int .i64 x.yB,.int .i64 x.yF,.int .i64 x.yD] [.int .i64 x.zY.zX,.int .i64 x.zY.zK,.int .i64 x.zY.zA,.int .i64 x.zY.yE,.int .i64 x.zY.zZ] [] HL.out HCC.out xR.rd_mk);have p0:w.cell? ⟨b,o,none⟩=some (.int .i64 x.zC):=(HB0.out.cell HL.out).trans (HCC.out 0 _ rfl);have p1:w.cell? ⟨b,o+1,none⟩=some (.int .i64 x.yB):=(HB0.out.cell HL.out).trans (HCC.out 1 _ rfl);have p2:w.cell? ⟨b,o+2,none⟩=some (.int .i64 x.yF):=(HB0.out.cell HL.out).trans (HCC.out 2 _ rfl);have p3:w.cell? ⟨b,o+3,none⟩=some (.int .i64 x.yD):=(HB0.out.cell HL.out).trans (HCC.out 3 _ rfl);have p4:w.cell? ⟨b,o+4,none⟩=some (.int .i64 x.zY.zX):=(HB0.out.cell HL.out).trans (HCC.out 4 _ rfl);have p5:w.cell? ⟨b,o+5,none⟩=some (.int .i64 x.zY.zK):=(HB0.out.cell HL.out).trans (HCC.out 5 _ rfl);have p6:w.cell? ⟨b,o+6,none⟩=some (.int .i64 x.zY.zA):=(HB0.out.cell HL.out).trans (HCC.out 6 _ rfl);have p7:w.cell? ⟨b,o+7,none⟩=some (.int .i64 x.zY.yE):=(HB0.out.cell HL.out).trans (HCC.out 7 _ rfl);have p8:w.cell? ⟨b,o+8,none⟩=some (.int .i64 x.zY.zZ):=(HB0.out.cell HL.out).trans (HCC.out 8 _ rfl);have lb:b<w.heap.size:=zW HL.out HB0.out.size;have heq: ∀ w,(Op.equalIn 10000 39 (.agg #[.int .i64 x.zY.zX,.int .i64 x.zY.zK,.int .i64 x.zY.zA,.int .i64 x.zY.yE,.int .i64 x.zY.zZ]) (.agg #[.int .i64 0,.int .i64 0,.int .i64 0,.int .i64 0,.int .i64 0])).run Tryz.prog w= .ok (decide (x.zY=zAz)) w:=eq_Clip 9998 x.zY zAz;have hgd:=eqg_Clip;have BN:=xL (@fieldsB_new x);have BR:=xL (@fieldsB_rem x);have BF:=xL (@wZz x);have BS:=xL (@vAz x);have B0:=xL (@vBz x);generalize hne:decide (x.zY=zAz)=ne at *;clear hne;generalize hco:tf (zMz x.zY)=co at *;have HCO:=xL hco;clear hco;have HB1:=xL (show Below w.heap.size w (w.alloc (.cells #[.int .i64 0,.int .i64 0,.int .i64 0,.int .i64 0,.int .i64 0] 39)) from zR.alloc zJ _);have HN:=xL (Bk.born w 39 #[.int .i64 0,.int .i64 0,.int .i64 0,.int .i64 0,.int .i64 0])
 go_enter Tryz.func43,Tryz.ntmps43
 by_cases k1:x.zC=1
 ·
  have q1:(x.zC == 1)=true:=yY k1;have HE:=xL (BN.out (.inl k1));clear k1;by_cases z:x.yD=0
  ·
   have hz:(x.yD == 0)=true:=yY z;have HZ:=xL (decide_eq_true z);clear z;go_wp2_with (go_at_call 83;refine(zJz x.zY b (o+4) _ (T.at_below HATN.out HB1.out)).mono ?_;rintro e w2 ⟨rfl,hb2⟩;rw[HCO.out];have HB2:=xL (yM HB1.out HB1.out.size hb2);clear hb2)
   go_ret
   exact⟨yK (by rw[HE.out,HZ.out];rfl),HB2.out⟩
  have hz:(x.yD == 0)=false:=yX z;have HZ:=xL (decide_eq_false z);clear z;go_wp2;go_ret
  exact⟨yK (by rw[HE.out,HZ.out];rfl),HB1.out⟩
 have q1:(x.zC == 1)=false:=yX k1;by_cases k3:x.zC=3
 ·
  have q3:(x.zC == 3)=true:=yY k3;have HE:=xL (BN.out (.inr k3));clear k3;by_cases z:x.yD=0
  ·
   have hz:(x.yD == 0)=true:=yY z;have HZ:=xL (decide_eq_true z);clear z;go_wp2_with (go_at_call 83;refine(zJz x.zY b (o+4) _ (T.at_below HATN.out HB1.out)).mono ?_;rintro e w2 ⟨rfl,hb2⟩;rw[HCO.out];have HB2:=xL (yM HB1.out HB1.out.size hb2);clear hb2)
   go_ret
   exact⟨yK (by rw[HE.out,HZ.out];rfl),HB2.out⟩
  have hz:(x.yD == 0)=false:=yX z;have HZ:=xL (decide_eq_false z);clear z;go_wp2;go_ret
  exact⟨yK (by rw[HE.out,HZ.out];rfl),HB1.out⟩
 have q3:(x.zC == 3)=false:=yX k3;by_cases k2:x.zC=2
 ·
  have q2:(x.zC == 2)=true:=yY k2;have HE:=xL (BR.out k2);clear k2;by_cases z:x.yD=0
  ·
   have hz:(x.yD == 0)=true:=yY z;have HZ:=xL (decide_eq_true z);clear z;go_wp2;generalize (w.alloc (.cells #[.int .i64 0,.int .i64 0,.int .i64 0,.int .i64 0,.int .i64 0] 39))=W at *;have g0:=yI ((HB1.out.cell HL.out).trans p0);have g1:=yI ((HB1.out.cell HL.out).trans p1);have g2:=yI ((HB1.out.cell HL.out).trans p2);have g3:=yI ((HB1.out.cell HL.out).trans p3);have g4:=yI ((HB1.out.cell HL.out).trans p4);have g5:=yI ((HB1.out.cell HL.out).trans p5);have g6:=yI ((HB1.out.cell HL.out).trans p6);have g7:=yI ((HB1.out.cell HL.out).trans p7);have g8:=yI ((HB1.out.cell HL.out).trans p8);have g9:=xK HN.out;refine rB ?_
   repeat(first|go_big_quiet_skip|(go_big_quiet_want;go_big_quiet_op;first|go_big_quiet_on|(apply Exists.intro;refine⟨fun _=>?_,?_⟩;(· (fail));go_big_quiet_on)))
   refine wpQuiet_nil ?_;rintro w9 ⟨uu,rfl⟩;have hb9:=yJ W uu;generalize bel W uu=w9 at *;have HB9:=xL (yM HB1.out HB1.out.size hb9);clear hb9 g0 g1 g2 g3 g4 g5 g6 g7 g8 g9;go_wp2;go_ret
   exact⟨yK (by rw[HE.out,HZ.out];rfl),HB9.out⟩
  have hz:(x.yD == 0)=false:=yX z;have HZ:=xL (decide_eq_false z);clear z;go_wp2;generalize (w.alloc (.cells #[.int .i64 0,.int .i64 0,.int .i64 0,.int .i64 0,.int .i64 0] 39))=W at *;have g0:=yI ((HB1.out.cell HL.out).trans p0);have g1:=yI ((HB1.out.cell HL.out).trans p1);have g2:=yI ((HB1.out.cell HL.out).trans p2);have g3:=yI ((HB1.out.cell HL.out).trans p3);have g4:=yI ((HB1.out.cell HL.out).trans p4);have g5:=yI ((HB1.out.cell HL.out).trans p5);have g6:=yI ((HB1.out.cell HL.out).trans p6);have g7:=yI ((HB1.out.cell HL.out).trans p7);have g8:=yI ((HB1.out.cell HL.out).trans p8);have g9:=xK HN.out;refine rB ?_
  repeat(first|go_big_quiet_skip|(go_big_quiet_want;go_big_quiet_op;first|go_big_quiet_on|(apply Exists.intro;refine⟨fun _=>?_,?_⟩;(· (fail));go_big_quiet_on)))
  refine wpQuiet_nil ?_;rintro w9 ⟨uu,rfl⟩;have hb9:=yJ W uu;generalize bel W uu=w9 at *;have HB9:=xL (yM HB1.out HB1.out.size hb9);clear hb9 g0 g1 g2 g3 g4 g5 g6 g7 g8 g9;go_wp2;go_ret
  exact⟨yK (by rw[HE.out,HZ.out];rfl),HB9.out⟩
 have q2:(x.zC == 2)=false:=yX k2;by_cases k4:x.zC=4
 ·
  have q4:(x.zC == 4)=true:=yY k4;have HE:=xL (BF.out k4);clear k4;by_cases z:x.yF=0
  ·
   have hz:(x.yF == 0)=true:=yY z;have HZ:=xL (decide_eq_true z);clear z;go_wp2;generalize (w.alloc (.cells #[.int .i64 0,.int .i64 0,.int .i64 0,.int .i64 0,.int .i64 0] 39))=W at *;have g0:=yI ((HB1.out.cell HL.out).trans p0);have g1:=yI ((HB1.out.cell HL.out).trans p1);have g2:=yI ((HB1.out.cell HL.out).trans p2);have g3:=yI ((HB1.out.cell HL.out).trans p3);have g4:=yI ((HB1.out.cell HL.out).trans p4);have g5:=yI ((HB1.out.cell HL.out).trans p5);have g6:=yI ((HB1.out.cell HL.out).trans p6);have g7:=yI ((HB1.out.cell HL.out).trans p7);have g8:=yI ((HB1.out.cell HL.out).trans p8);have g9:=xK HN.out;refine rB ?_
   repeat(first|go_big_quiet_skip|(go_big_quiet_want;go_big_quiet_op;first|go_big_quiet_on|(apply Exists.intro;refine⟨fun _=>?_,?_⟩;(· (fail));go_big_quiet_on)))
   refine wpQuiet_nil ?_;rintro w9 ⟨uu,rfl⟩;have hb9:=yJ W uu;generalize bel W uu=w9 at *;have HB9:=xL (yM HB1.out HB1.out.size hb9);clear hb9 g0 g1 g2 g3 g4 g5 g6 g7 g8 g9;go_wp2;go_ret
   exact⟨yK (by rw[HE.out,HZ.out];rfl),HB9.out⟩
  have hz:(x.yF == 0)=false:=yX z;have HZ:=xL (decide_eq_false z);clear z;go_wp2;generalize (w.alloc (.cells #[.int .i64 0,.int .i64 0,.int .i64 0,.int .i64 0,.int .i64 0] 39))=W at *;have g0:=yI ((HB1.out.cell HL.out).trans p0);have g1:=yI ((HB1.out.cell HL.out).trans p1);have g2:=yI ((HB1.out.cell HL.out).trans p2);have g3:=yI ((HB1.out.cell HL.out).trans p3);have g4:=yI ((HB1.out.cell HL.out).trans p4);have g5:=yI ((HB1.out.cell HL.out).trans p5);have g6:=yI ((HB1.out.cell HL.out).trans p6);have g7:=yI ((HB1.out.cell HL.out).trans p7);have g8:=yI ((HB1.out.cell HL.out).trans p8);have g9:=xK HN.out;refine rB ?_
  repeat(first|go_big_quiet_skip|(go_big_quiet_want;go_big_quiet_op;first|go_big_quiet_on|(apply Exists.intro;refine⟨fun _=>?_,?_⟩;(· (fail));go_big_quiet_on)))
  refine wpQuiet_nil ?_;rintro w9 ⟨uu,rfl⟩;have hb9:=yJ W uu;generalize bel W uu=w9 at *;have HB9:=xL (yM HB1.out HB1.out.size hb9);clear hb9 g0 g1 g2 g3 g4 g5 g6 g7 g8 g9;go_wp2;go_ret
  exact⟨yK (by rw[HE.out,HZ.out];rfl),HB9.out⟩
 have q4:(x.zC == 4)=false:=yX k4;by_cases k5:x.zC=5
 ·
  have q5:(x.zC == 5)=true:=yY k5;have HE:=xL (BS.out k5);clear k5;go_wp2;generalize (w.alloc (.cells #[.int .i64 0,.int .i64 0,.int .i64 0,.int .i64 0,.int .i64 0] 39))=W at *;have g0:=yI ((HB1.out.cell HL.out).trans p0);have g1:=yI ((HB1.out.cell HL.out).trans p1);have g2:=yI ((HB1.out.cell HL.out).trans p2);have g3:=yI ((HB1.out.cell HL.out).trans p3);have g4:=yI ((HB1.out.cell HL.out).trans p4);have g5:=yI ((HB1.out.cell HL.out).trans p5);have g6:=yI ((HB1.out.cell HL.out).trans p6);have g7:=yI ((HB1.out.cell HL.out).trans p7);have g8:=yI ((HB1.out.cell HL.out).trans p8);have g9:=xK HN.out;refine rB ?_
  repeat(first|go_big_quiet_skip|(go_big_quiet_want;go_big_quiet_op;first|go_big_quiet_on|(apply Exists.intro;refine⟨fun _=>?_,?_⟩;(· (fail));go_big_quiet_on)))
  refine wpQuiet_nil ?_;rintro w9 ⟨uu,rfl⟩;have hb9:=yJ W uu;generalize bel W uu=w9 at *;have HB9:=xL (yM HB1.out HB1.out.size hb9);clear hb9 g0 g1 g2 g3 g4 g5 g6 g7 g8 g9;go_wp2;go_ret
  exact⟨yK HE.out.symm,HB9.out⟩
 have q5:(x.zC == 5)=false:=yX k5;have HE:=xL (B0.out (fun h=>h.elim k1 k3) k2 k4 k5);clear k1 k2 k3 k4 k5;go_wp2;go_ret
 exact⟨yK HE.out.symm,HB1.out⟩
end
section
open Go.RowKit
end
section
open Go.RowKit
end
section
open Go.RowKit
end
section
open Go.RowKit
end
section
open Go.RowKit
section
variable {P:Program} {ops:Array Oper} {Q:Exit→Act→World→Prop} {md:Region.Mode} {S:World→Prop} {n:Nat}
def zFz (P:Program) (md:Region.Mode) (ops:Array Oper) (Q:Exit→Act→World→Prop) (S:World→Prop) (n:Nat):Nat→Array Bool→Act→World→Prop
 |0,listed,a,w=>Region.ready md ops listed= []∧Q .normal a w
 |fuel+1,listed,a,w=>
  (Region.ready md ops listed= []→Q .normal a w)∧
  ∀ i ∈ Region.ready md ops listed,wpOp P ops Q i (fun a' w'=>(i=n∨S w')∧zFz P md ops Q S n fuel (listed.setIfInBounds i true) a' w') a w
theorem wpAny_of_E: ∀ (fuel:Nat) (listed:Array Bool) (a:Act) (w:World),zFz P md ops Q S n fuel listed a w→wpAny P md ops Q fuel listed a w
 |0,_,_,_,h=>h
 |fuel+1,_,_,_,h=>⟨h.1,fun i hi=>wpOp_mono (fun a' w' h'=>wpAny_of_E fuel _ a' w' h'.2) (h.2 i hi)⟩
theorem wpAnyE_first {i:Nat} {oi:Oper} {v:Value} (hn:Region.waitsFor md ops n i=true) (hi:ops[i]?=some oi) (hsel: ∀ (j:Nat) (o:Oper) cs b,ops[j]?=some o→o.op≠ .select cs b)
  (hQ: ∀ c a w,Q (.panic c) (a.put oi.dst v) w→Q (.panic c) a w):
  ∀ (fuel:Nat) (listed:Array Bool) (a:Act) (w:World),
   (∀ j oj,ops[j]?=some oj→j≠i→listed.getD j true=false→(∀ e ∈ oj.after,Region.binds md e=true→e.on≠i)→oi.apart ops oj=true)→
   i ∈ Region.ready md ops listed→YieldsIf P ops S oi v a→S w→
   zFz P md ops Q S n fuel (listed.setIfInBounds i true) (a.put oi.dst v) w→zFz P md ops Q S n (fuel+1) listed a w:=by
 have late: ∀ {listed:Array Bool} {j:Nat},i ∈ Region.ready md ops listed→j ∈ Region.ready md ops listed→j≠n:=by
  intro listed j hr hj e;subst e;obtain⟨oj,hoj,e,he,hb,heq⟩:=Region.waitsFor_spec hn;obtain⟨_,oj',hoj',hall⟩:=mem_ready.1 hj;obtain rfl:oj=oj':=Option.some.inj (hoj.symm.trans hoj');have h1:=hall e he hb;have h0:=(mem_ready.1 hr).1;rw[heq,getD_both h0] at h1
  cases h1
 intro fuel
 induction fuel with
 |zero=>
  intro listed a w _ hr hy hS H;refine⟨fun h=>(by rw[h] at hr;cases hr),fun j hj=>?_⟩;by_cases hji:j=i
  ·subst hji;exact hy.wpOp hi hS ⟨.inr hS,H⟩
  ·have:=ready_mono hj hji
   rw[H.1] at this
   cases this
 |succ fuel ih=>
  intro listed a w hfree hr hy hS H;refine⟨fun h=>(by rw[h] at hr;cases hr),fun j hj=>?_⟩;by_cases hji:j=i
  ·subst hji;exact hy.wpOp hi hS ⟨.inr hS,H⟩
  ·have h1:=H.2 j (ready_mono hj hji)
   obtain⟨hjun,oj,hoj,hall⟩:=mem_ready.1 hj;have hun:=(mem_ready.1 hr).1
   have hnot: ∀ e ∈ oj.after,Region.binds md e=true→e.on≠i:=fun e he hb heq=>by
    have h1:=hall e he hb;rw[heq,getD_both hun] at h1
    cases h1
   have h2:=wpOp_putIf hoj (hfree j oj hoj hji hjun hnot) (fun cs b=>hsel i oi cs b hi) (fun cs b=>hsel j oj cs b hoj) hQ hy h1
   have hfree': ∀ k ok,ops[k]?=some ok→k≠i→(listed.setIfInBounds j true).getD k true=false→
     (∀ e ∈ ok.after,Region.binds md e=true→e.on≠i)→oi.apart ops ok=true:=fun k ok hk hki hun hno=>by
    refine hfree k ok hk hki ?_ hno;by_cases hjk:j=k
    ·subst hjk;exact hjun
    ·rw[getD_set_ne true hjk] at hun;exact hun
   have hjn:=late hr hj;refine wpOp_mono (fun a' w' h3=>?_) h2;have hS':S w':=h3.2.1.resolve_left hjn;refine⟨.inr hS',ih (listed.setIfInBounds j true) a' w' hfree' (ready_mono hr (Ne.symm hji)) h3.1 hS' ?_⟩;rw[Array.setIfInBounds_comm _ _ hji];exact h3.2.2
theorem xD {i:Nat} {oi:Oper} {v:Value} {fuel:Nat} {listed:Array Bool} {a:Act} {w:World} (hn:Region.waitsFor md ops n i=true) (hi:ops[i]?=some oi)
  (hs:Region.noSelect ops=true) (hf:Region.free md ops listed i=true) (hr:(Region.ready md ops listed).contains i=true)
  (hQ: ∀ c a w,Q (.panic c) (a.put oi.dst v) w→Q (.panic c) a w) (hS:S w) (hw:Region.wanted oi (yielded ops a.tmps)=true) (hy: ∀ w,S w→(execOp a.eval oi).run P w= .ok (.value v) w)
  (h:zFz P md ops Q S n fuel (listed.setIfInBounds i true) (a.put oi.dst v) w):zFz P md ops Q S n (fuel+1) listed a w:=
 wpAnyE_first hn hi (Region.noSelect_spec hs) hQ fuel listed a w (Region.free_spec hi hf) (by simpa using hr) (.inl ⟨hw,hy⟩) hS h
theorem wpAnyE_one {i:Nat} {o:Oper} {fuel:Nat} {listed:Array Bool} {a:Act} {w:World} (hr:Region.ready md ops listed= [i]) (ho:ops[i]?=some o)
  (h: ∀ K':Act→World→Prop,Shut (∀ a w,S w→(S w→zFz P md ops Q S n fuel (listed.setIfInBounds i true) a w)→K' a w)→if Region.wanted o (yielded ops a.tmps)=true then Oper.wp P o a w K' Q else K' (a.put o.dst undef) w):
  zFz P md ops Q S n (fuel+1) listed a w:=
 ⟨fun h0=>(by rw[hr] at h0;cases h0),fun j hj=>by
  rw[hr,List.mem_singleton] at hj;subst hj;exact wpOp_step ho (fun K' hK=>h K' (fun a w hS hW=>hK a w ⟨.inr hS,hW hS⟩))⟩
theorem wpAnyE_tail {o:Oper} {fuel:Nat} {listed:Array Bool} {a:Act} {w:World} (hr:Region.ready md ops listed= [n]) (ho:ops[n]?=some o) (hr2:Region.ready md ops (listed.setIfInBounds n true)= [])
  (h:wpList P ops Q [o] a w):zFz P md ops Q S n (fuel+1) listed a w:=
 ⟨fun h0=>(by rw[hr] at h0;cases h0),fun j hj=>by
  rw[hr,List.mem_singleton] at hj;subst hj;have hw:wpOp P ops Q j (wpList P ops Q []) a w:=by unfold wpOp;simp only[ho];exact h
  refine wpOp_mono (fun a' w' h'=>⟨.inl rfl,?_⟩) hw;have h':Q .normal a' w':=h'
  cases fuel with
  |zero=>exact⟨hr2,h'⟩
  |succ f=>exact⟨fun _=>h',by rw[hr2];simp⟩⟩
theorem uV {id:Nat} {a:Act} {w:World} (S:World→Prop) (n:Nat) (hm:P.follows .mixedOrders=true) (hS:S w.drew)
  (h:S w.drew→zFz P .any ops Q S n ops.size (Array.replicate ops.size false) a w.drew):(Code.region id ops true).wp P Q a w:=
 wp_region_any hm (wpAny_of_E _ _ _ _ (h hS))
end
theorem zE {P:Program} {md:Region.Mode} {ops:Array Oper} {Q:Exit→Act→World→Prop} {S:World→Prop} {n:Nat} (i:Nat) {oi:Oper} {v:Value} {fuel:Nat} {listed:Array Bool} {a b:Act} {w:World} (hS:S w)
  (h:zFz P md ops Q S n fuel (listed.setIfInBounds i true) b w)
  (hi:ops[i]?=some oi:=by rfl)
  (hc:(Region.waitsFor md ops n i && Region.noSelect ops && Region.free md ops listed i && (Region.ready md ops listed).contains i)=true:=by kernel_rfl)
  (hQ: ∀ c a w,Q (.panic c) (a.put oi.dst v) w→Q (.panic c) a w:=by exact fun _ _ _ h=>h)
  (hw:Region.wanted oi (yielded ops a.tmps)=true:=by rfl)
  (hy: ∀ w,S w→(execOp a.eval oi).run P w= .ok (.value v) w:=by(intro w hSw;(try dsimp only at hSw);first|(go_simp;done)|(go_simp;with_reducible rfl)))
  (hb:a.put oi.dst v=b:=by(simp only[Act.put,List.setIfInBounds_toArray,List.set_cons_zero,List.set_cons_succ];try with_reducible rfl)):zFz P md ops Q S n (fuel+1) listed a w:=by
 subst hb;simp only[Bool.and_eq_true] at hc;obtain⟨⟨⟨h1,h2⟩,h3⟩,h4⟩:=hc;exact xD h1 hi h2 h3 h4 hQ hS hw hy h
theorem qE {P:Program} {md:Region.Mode} {ops:Array Oper} {Q:Exit→Act→World→Prop} {S:World→Prop} {n:Nat} {o:Oper} {fuel:Nat} {listed:Array Bool} {a:Act} {w:World} (h:wpList P ops Q [o] a w)
  (hr:Region.ready md ops listed= [n]:=by kernel_rfl) (ho:ops[n]?=some o:=by rfl) (hr2:Region.ready md ops (listed.setIfInBounds n true)= []:=by kernel_rfl):zFz P md ops Q S n (fuel+1) listed a w:=wpAnyE_tail hr ho hr2 h
theorem pE {P:Program} {md:Region.Mode} {ops:Array Oper} {Q:Exit→Act→World→Prop} {S:World→Prop} {n:Nat} (i:Nat) {o:Oper} {fuel:Nat} {listed:Array Bool} {a:Act} {w:World}
  (h: ∀ K':Act→World→Prop,Shut (∀ a w,S w→(S w→zFz P md ops Q S n fuel (listed.setIfInBounds i true) a w)→K' a w)→if Region.wanted o (yielded ops a.tmps)=true then Oper.wp P o a w K' Q else K' (a.put o.dst undef) w)
  (hr:Region.ready md ops listed= [i]:=by kernel_rfl) (ho:ops[i]?=some o:=by rfl):zFz P md ops Q S n (fuel+1) listed a w:=wpAnyE_one hr ho h
end
section
open Go.RowKit
end
section
open Go.RowKit
end
section
open Go.RowKit
end
section
open Go.RowKit
theorem Own.grown {B:Nat} {w w':World} {x:T} {F:List Nat} {v:Value} {row:Option Nat} (h:Own B w x F v) (hg:w.grownBy w' row) (hd: ∀ g ∈ F,row≠some g):Own B w' x F v:=
 ⟨T.ow_keep _ _ _ (fun b hb=>hg.block b (h.lt b hb) (fun e=>hd b hb e.symm)) h.ow,h.nodup,h.lo⟩
end
section
open Go.RowKit
theorem zQz:(Tryz.prog.info? 26).map (fun i=>(i.zero,i.size,i.bytes))=some (some (.slice none 0 0),1,24):=by kernel_rfl
theorem xX:(Tryz.prog.info? 39).map (fun i=>(i.zero,i.size,i.bytes))=some (some (.agg #[.int .i64 0,.int .i64 0,.int .i64 0,.int .i64 0,.int .i64 0]),5,40):=by kernel_rfl
theorem info_TrackS:(Tryz.prog.info? 69).map (fun i=>(i.zero,i.size,i.bytes))=some (some (.agg #[.slice none 0 0]),1,24):=by kernel_rfl
theorem zGz:(Tryz.prog.info? 120).map (fun i=>(i.zero,i.size,i.bytes))=some (some (.agg #[.int .i64 0,.int .i64 0,.int .i64 0,.slice none 0 0]),4,48):=by kernel_rfl
theorem info_PatchS:(Tryz.prog.info? 81).map (fun i=>(i.zero,i.size,i.bytes))=some (some (.agg #[.int .i64 0,.slice none 0 0,.slice none 0 0,.slice none 0 0]),4,80):=by kernel_rfl
theorem yNz:(Tryz.prog.info? 71).map (fun i=>(i.zero,i.size,i.bytes))=some (some (.agg #[.int .i64 0,.int .i64 0]),2,16):=by kernel_rfl
theorem zLz:(Tryz.prog.info? 74).map (fun i=>(i.zero,i.size,i.bytes))=some (some (.agg #[.string ByteArray.empty,.int .i64 0,.slice none 0 0]),3,48):=by kernel_rfl
end
section
open Go.RowKit
theorem own_new (w:World) (E:TypeId) (sz:Nat):Own w.heap.size (w.alloc (.cells #[] E)) (.sl E sz []) [w.heap.size] (.slice (some ⟨w.heap.size,0,none⟩) 0 0):=Own.born (v:= .slice (some ⟨w.heap.size,0,none⟩) 0 0) (World.ownsRow_made w #[] 0 zJ (by decide) (by simp))
theorem Own.src {B g:Nat} {w w':World} {x:T} {F:List Nat} {v:Value} (h:Own B w x F v) (hg:g<B) (k:Trn [g] w w'):Own B w' x F v:=
 h.trn k (fun b hb hm=>by simp at hm;have:=h.lo b hb;omega)
theorem smp_app {l:List Int} {y:Int} (h: ∀ z ∈ l,Smp z) (hy:Smp y): ∀ z ∈ l++ [y],Smp z:=fun z hz=>by
 rcases List.mem_append.1 hz with e|e
 ·exact h z e
 ·simp at e;subst e;exact hy
theorem x_l03Draw {w:World} {g a:Nat} {cv:Value} {bs:List UInt8} {most:Int} (h:Sx w w g cv bs a) (ha:a≤1070000000) (hm:0≤most∧most≤4000):Calls Tryz.prog 76 #[.pointer (some ⟨g,0,none⟩),.int .i64 most] w fun e w'=> ∃ (v:Value) (xs:List Int) (a2:Nat),e= .returned v∧OwI 2 w' w.heap.size v xs∧(∀ y ∈ xs,Smp y)∧(xs.length:Int)≤most∧a2≤a+2+10 * most.toNat∧Sx w w' g cv bs a2:=by
 have H:=xL h;have HGL:=xL h.gin;clear h;have hw:IntKind.i64.wrap (most+1)=most+1:=IntWalk.i64_in _ zM;have HN:=xL (uX w)
 go_enter Tryz.func76,Tryz.ntmps76
 go_wp2_with fail
 refine(wJ (H.out.alloc _) zM zM).mono ?_;rintro e w1 ⟨K,a1,rfl,hK,ha1,hs⟩;have HO1:=xL (Sx.ints HN.out HGL.out hs.trn);have HS1:=xL ((H.out.alloc _).next hs);clear hs HN;obtain⟨k0,rfl⟩: ∃ q:Nat,K=(q:Int):=⟨K.toNat,by omega⟩;have hk0:(k0:Int)≤most:=by omega
 clear hw hK;go_wp2
 go_loopw [5,6] (fun o kk wr=> ∃ (k c:Nat) (out:List Int),k≤k0∧kk= .int .i64 (k:Int)∧(∀ y ∈ out,Smp y)∧out.length+k=k0∧c≤a1+10 * (k0 - k)∧Sx w wr g cv bs c∧OwI 2 wr w.heap.size o out) (fun _ kk _=>(intOf kk).toNat)
 case atStart=>exact⟨k0,a1,[],zJ,rfl,by simp,by simp,by omega,HS1.out,HO1.out⟩
 case round=>
  obtain⟨k,c,out,hkK,rfl,hos,hol,hc,hs,ho⟩:=hrel;have HS:=xL hs;have HO:=xL ho;have HOS:=xL hos;have hsz:w.heap.size≤wr.heap.size:=hs.size;clear hs ho hos;by_cases hk:0<k
  ·
   have hal:out.length+1≤17592186044416:=by omega
   go_wp2_with fail
   refine(uM HS.out zM).mono ?_;rintro e w4 ⟨y,c2,rfl,hy,hc2,hs⟩;have HO4:=xL (Sx.ints HO.out HGL.out hs.trn);have HS4:=xL (HS.out.next hs);have hs4z:w.heap.size≤w4.heap.size:=Nat.le_trans hsz hs.size;clear hs;have HOS2:=xL (smp_app HOS.out hy);go_wp2_with (at_builtin;refine xJz (n:=y) rfl _ _ rfl rfl HO4.out rfl hal hs4z ?_;intro v5 w5 ho5 hg5 hv5;have HO5:=xL ho5;have HS5:=xL (HS4.out.grown hg5 (fun b e=>(HO4.out.lt b e).1));clear ho5 hg5 hv5)
   go_roundw
   case rel=>exact⟨k - 1,c2,out++ [y],by omega,by go_num,HOS2.out,by rw[List.length_append];simp;omega,by omega,HS5.out,HO5.out⟩
   case measure=>first|(simp[intOf];done)|(simp[intOf];omega)
  obtain rfl:k=0:=by omega
  go_wp2;go_ret
  exact⟨_,out,c,rfl,HO.out,HOS.out,by omega,by omega,HS.out⟩
def TabL (l:List Int):Prop:=(l.length=2∨l.length=4∨l.length=8)∧ ∀ y ∈ l,Smp y
theorem x_l06DrawTables {w:World} {g a:Nat} {cv:Value} {bs:List UInt8} (h:Sx w w g cv bs a) (ha:a≤1070000000):Calls Tryz.prog 118 #[.pointer (some ⟨g,0,none⟩)] w fun e w'=> ∃ (v:Value) (xs:List (List Int)) (F:List Nat) (a2:Nat),e= .returned v∧Own w.heap.size w' (T.sl 26 1 (xs.map (T.ints 2))) F v∧(∀ l ∈ xs,TabL l)∧1≤xs.length∧xs.length≤2∧a2≤a+200∧Sx w w' g cv bs a2:=by
 have H:=xL h;have HGL:=xL h.gin;clear h;have HN:=xL (own_new w 26 1)
 go_enter Tryz.func118,Tryz.ntmps118
 go_wp2_with fail
 refine(wJ (H.out.alloc _) zM zM).mono ?_;rintro e w1 ⟨K,a1,rfl,hK,ha1,hs⟩;have HO1:=xL (HN.out.src HGL.out hs.trn);have HS1:=xL ((H.out.alloc _).next hs);clear hs HN;obtain⟨k0,hk0,hk2⟩: ∃ q:Nat,1+K=(q:Int)∧q≤2:=⟨(1+K).toNat,by omega,by omega⟩;have hk1:1≤k0:=by omega
 have hw:IntKind.i64.wrap (1+K)=(k0:Int):=by rw[hk0];exact IntWalk.i64_in _ zM
 clear hK hk0;go_wp2;clear hw
 go_loopw [3,4] (fun o kk wr=> ∃ (k c:Nat) (out:List (List Int)) (F:List Nat),k≤k0∧kk= .int .i64 (k:Int)∧(∀ l ∈ out,TabL l)∧out.length+k=k0∧c≤a1+90 * (k0 - k)∧Sx w wr g cv bs c∧Own w.heap.size wr (T.sl 26 1 (out.map (T.ints 2))) F o) (fun _ kk _=>(intOf kk).toNat)
 case atStart=>exact⟨k0,a1,[],_,zJ,rfl,by simp,by simp,by omega,HS1.out,HO1.out⟩
 case round=>
  obtain⟨k,c,out,F,hkK,rfl,hos,hol,hc,hs,ho⟩:=hrel;have HS:=xL hs;have HO:=xL ho;have HOS:=xL hos;have hsz:w.heap.size≤wr.heap.size:=hs.size;clear hs ho hos;by_cases hk:0<k
  ·
   obtain⟨wq,rfl⟩: ∃ q,q=wr:=⟨_,rfl⟩;have hszA:(wq.alloc (.cells #[] 2)).heap.size=wq.heap.size+1:=by simp
   have hli:=OwI.rd (show OwI 2 ((wq.alloc (.cells #[] 2)).alloc (.cells #[.int .i64 2,.int .i64 4,.int .i64 8,.int .i64 4] 2)) (wq.alloc (.cells #[] 2)).heap.size (.slice (some ⟨(wq.alloc (.cells #[] 2)).heap.size,0,none⟩) 4 4) [2,4,8,4] from World.ownsRow_lit (base:=(wq.alloc (.cells #[] 2)).heap.size) (e:=2) (size:=1) (wq.alloc (.cells #[] 2)) #[.int .i64 2,.int .i64 4,.int .i64 8,.int .i64 4] 4 zJ (by decide) rfl);rw[hszA] at hli;have HLI:=xL hli;clear hli hszA;have HB2:=xL (((Below.refl wq.heap.size wq).alloc zJ (.cells #[] 2)).alloc (by simp) (.cells #[.int .i64 2,.int .i64 4,.int .i64 8,.int .i64 4] 2));have HT2:=xL (show OwI 2 ((wq.alloc (.cells #[] 2)).alloc (.cells #[.int .i64 2,.int .i64 4,.int .i64 8,.int .i64 4] 2)) wq.heap.size (.slice (some ⟨wq.heap.size,0,none⟩) 0 0) [] from yZz (uX wq) (zR.alloc zJ _));have HO2:=xL (HO.out.all HB2.out);have HS2:=xL (HS.out.below HB2.out);go_wp2_with fail
   refine(vL HS2.out zM HLI.out (by decide) (fun b e=>by injection e with e;have:=HGL.out;simp at e;omega)).mono ?_;rintro e w3 ⟨M,c1,rfl,hM,hc1,hs⟩;have hM2:M=2∨M=4∨M=8:=(by simp at hM;omega);obtain⟨m0,rfl⟩: ∃ q:Nat,M=(q:Int):=⟨M.toNat,by omega⟩;have hm0:m0=2∨m0=4∨m0=8:=by omega
   have hqg:g<wq.heap.size:=(by have:=HGL.out;omega);have HT3:=xL (Sx.ints HT2.out hqg hs.trn);have HO3:=xL (HO2.out.src HGL.out hs.trn);have HS3:=xL (HS2.out.next hs);have hq3:wq.heap.size≤w3.heap.size:=Nat.le_trans HB2.out.size hs.size;clear hs hM hM2 HB2 HLI;have HFL:=xL HO.out.lt;go_wp2
   go_loopw [5,6] (fun o2 mm wr=> ∃ (m c2:Nat) (t:List Int),m≤m0∧mm= .int .i64 (m:Int)∧(∀ y ∈ t,Smp y)∧t.length+m=m0∧c2≤c1+10 * (m0 - m)∧Sx w wr g cv bs c2∧OwI 2 wr wq.heap.size o2 t∧Own w.heap.size wr (T.sl 26 1 (out.map (T.ints 2))) F u3∧wq.heap.size≤wr.heap.size) (fun _ mm _=>(intOf mm).toNat)
   case atStart=>exact⟨m0,c1,[],zJ,rfl,by simp,by simp,by omega,HS3.out,HT3.out,HO3.out,hq3⟩
   case round=>
    obtain⟨m,c2,tt,hmK,rfl,hts,htl,hc2,hs,ht,ho,hszi⟩:=hrel;have HSi:=xL hs;have HTi:=xL ht;have HOi:=xL ho;have HTS:=xL hts;clear hs ht ho hts;by_cases hm:0<m
    ·
     have hal:tt.length+1≤17592186044416:=by omega
     go_wp2_with fail
     refine(uM HSi.out zM).mono ?_;rintro e w4 ⟨y,c3,rfl,hy,hc3,hs⟩;have HT4:=xL (Sx.ints HTi.out hqg hs.trn);have HO4:=xL (HOi.out.src HGL.out hs.trn);have HS4:=xL (HSi.out.next hs);have hs4z:wq.heap.size≤w4.heap.size:=Nat.le_trans hszi hs.size;clear hs;have HTS2:=xL (smp_app HTS.out hy);go_wp2_with (at_builtin;refine xJz (n:=y) rfl _ _ rfl rfl HT4.out rfl hal hs4z ?_;intro v5 w5 ho5 hg5 hv5;have HT5:=xL ho5;have HS5:=xL (HS4.out.grown hg5 (fun b e=>by have:=(HT4.out.lt b e).1;omega));have HO5:=xL (HO4.out.grown hg5 (fun q hq e=>by have h1:=(HT4.out.lt q e).1;have h2:=HFL.out q hq;omega));have hz5:=hg5.size;clear ho5 hg5 hv5)
     go_roundw
     case rel=>exact⟨m - 1,c3,tt++ [y],by omega,by go_num,HTS2.out,by rw[List.length_append];simp;omega,by omega,HS5.out,HT5.out,HO5.out,Nat.le_trans hs4z hz5⟩
     case measure=>first|(simp[intOf];done)|(simp[intOf];omega)
    obtain rfl:m=0:=by omega
    obtain⟨tA,tL,tC,rfl⟩:=T.xC (T.ow_ints.2 ⟨HTi.out.more (Nat.zero_le _),rfl⟩);obtain⟨oA,oL,oC,rfl⟩:=T.xC HOi.out.ow;have HNo:=xL (show T.ow wr (T.ints 2 tt) (Value.slice tA tL tC).ownBlock.toList [.slice tA tL tC] from T.ow_ints.2 ⟨HTi.out.more (Nat.zero_le _),rfl⟩);have hnd:(Value.slice tA tL tC).ownBlock.toList.Nodup:=by cases (Value.slice tA tL tC).ownBlock<;>simp
    have hoz:out.length≤2:=by omega
    have hwz:w.heap.size≤wr.heap.size:=Nat.le_trans hsz hszi;have HTB:=xL (show TabL tt from⟨by omega,HTS.out⟩);go_wp2_with (at_builtin;refine uG rfl _ _ _ rfl w.heap.size 26 _ 1 24 Tryz.underlying24 zQz rfl zM rfl HOi.out HNo.out hnd (fun b hb=>by have h:=(HTi.out.lt b (by simpa using hb)).1;omega) (fun b hb hb2=>by have h:=(HTi.out.lt b (by simpa using hb2)).1;have h2:=HFL.out b hb;omega) rfl rfl (by rw[List.length_map];omega) (by rw[List.length_map];omega) hwz ?_;intro v8 w8 F8 ho8 hg8 hv8;have HO8:=xL ho8;have HS8:=xL (HSi.out.grown hg8 (fun b e=>HOi.out.row b e));clear ho8 hg8 hv8)
    go_roundw
    case rel=>exact⟨k - 1,c2,out++ [tt],F8,by omega,by go_num,(fun l hl=>by rcases List.mem_append.1 hl with e|e;(· exact HOS.out l e);(· simp at e;subst e;exact HTB.out)),by rw[List.length_append];simp;omega,by omega,HS8.out,by have h:=HO8.out;rw[List.map_append];exact h⟩
    case measure=>first|(simp[intOf];done)|(simp[intOf];omega)
  obtain rfl:k=0:=by omega
  go_wp2;go_ret
  exact⟨_,out,F,c,rfl,HO.out,HOS.out,by omega,by omega,by omega,HS.out⟩
end
section
open Go.RowKit
end
section
open Go.RowKit
def AvOk (k A tn:Int):Prop:=(if (vU k).low≤(vU k).high then inB A (vU k).low (vU k).high=true else A=0)∧(k=13→A<tn)∧Smp A
theorem yVz {k A tn lo hi:Int} (h1:(vU k).low=lo) (h2:(vU k).high=hi) (h3:lo≤hi) (h:lo≤A∧A≤hi) (hs:Smp A) (h13:k=13→A<tn):AvOk k A tn:=by
 unfold AvOk;rw[h1,h2,if_pos h3];exact⟨xI.2 h,h13,hs⟩
theorem avOk_has {k A tn:Int} (hk:k=2∨k=5∨k=12∨k=14∨k=17) (h:Smp A):AvOk k A tn:=by
 have h': -2147483648≤A∧A≤2147483647:=by unfold Smp at h;omega
 rcases hk with rfl|rfl|rfl|rfl|rfl<;>exact yVz (lo:= -2147483648) (hi:=2147483647) rfl rfl (by decide) h' h zM
theorem avOk_no {k tn:Int} (hk:k=3∨k=4∨k=7∨k=8∨k=9∨k=15∨k=16):AvOk k 0 tn:=by
 rcases hk with rfl|rfl|rfl|rfl|rfl|rfl|rfl<;>exact⟨by decide,by omega,smp_zero⟩
theorem x_l06DrawA {w:World} {g a:Nat} {cv:Value} {bs:List UInt8} {k tn:Int} (h:Sx w w g cv bs a) (ha:a≤1070000000) (hk:inB k 1 17=true) (ht:k=13→1≤tn∧tn≤4):Calls Tryz.prog 147 #[.pointer (some ⟨g,0,none⟩),.int .i64 k,.int .i64 tn] w fun e w'=>NumX w g cv bs a 10 (fun A=>AvOk k A tn) e w':=by
 have H:=xL h;have HGL:=xL h.gin;have hk:=xI.1 hk;clear h;by_cases q1:k=1
 ·
  subst q1
  go_enter Tryz.func147,Tryz.ntmps147
  go_wp2_with fail
  refine(wJ H.out zM zM).mono ?_;rintro e w1 ⟨x,a2,rfl,hx,ha2,hs⟩;have HS:=xL hs;clear hs;go_wp2;go_ret
  exact⟨_,a2,rfl,yVz (lo:=0) (hi:=3) rfl rfl (by decide) zM (by unfold Smp;omega) zM,by omega,HS.out⟩
 have b1:(k == 1)=false:=by simpa using q1
 by_cases q6:k=6
 ·
  subst q6
  go_enter Tryz.func147,Tryz.ntmps147
  go_wp2_with fail
  refine(wJ H.out zM zM).mono ?_;rintro e w1 ⟨x,a2,rfl,hx,ha2,hs⟩;have HS:=xL hs;clear hs;have hw:IntKind.i64.wrap (1+x)=1+x:=IntWalk.i64_in _ zM;go_wp2;go_ret
  exact⟨_,a2,rfl,yVz (lo:=1) (hi:=16) rfl rfl (by decide) zM (by unfold Smp;omega) zM,by omega,HS.out⟩
 have b6:(k == 6)=false:=by simpa using q6
 by_cases q10:k=10
 ·
  subst q10;have HLI:=xL (OwI.rd (show OwI 2 (w.alloc (.cells #[.int .i64 1,.int .i64 2,.int .i64 0,.int .i64 16,.int .i64 31] 2)) w.heap.size (.slice (some ⟨w.heap.size,0,none⟩) 5 5) [1,2,0,16,31] from World.ownsRow_lit (base:=w.heap.size) (e:=2) (size:=1) w #[.int .i64 1,.int .i64 2,.int .i64 0,.int .i64 16,.int .i64 31] 5 zJ (by decide) rfl));have HA:=xL (H.out.alloc (.cells #[.int .i64 1,.int .i64 2,.int .i64 0,.int .i64 16,.int .i64 31] 2))
  go_enter Tryz.func147,Tryz.ntmps147
  go_wp2_with fail
  refine(vL HA.out zM HLI.out (by decide) (fun b e=>by injection e with e;have:=HGL.out;simp at e;omega)).mono ?_;rintro e w1 ⟨x,a2,rfl,hx,ha2,hs⟩;have HS:=xL (HA.out.next hs);clear hs;have hx2:0≤x∧x≤31:=(by simp at hx;omega);clear hx;go_wp2;go_ret
  exact⟨_,a2,rfl,yVz (lo:=0) (hi:=31) rfl rfl (by decide) hx2 (by unfold Smp;omega) zM,by omega,HS.out⟩
 have b10:(k == 10)=false:=by simpa using q10
 by_cases q11:k=11
 ·
  subst q11;have HLI:=xL (OwI.rd (show OwI 2 (w.alloc (.cells #[.int .i64 10,.int .i64 0,.int .i64 100,.int .i64 2147483647] 2)) w.heap.size (.slice (some ⟨w.heap.size,0,none⟩) 4 4) [10,0,100,2147483647] from World.ownsRow_lit (base:=w.heap.size) (e:=2) (size:=1) w #[.int .i64 10,.int .i64 0,.int .i64 100,.int .i64 2147483647] 4 zJ (by decide) rfl));have HA:=xL (H.out.alloc (.cells #[.int .i64 10,.int .i64 0,.int .i64 100,.int .i64 2147483647] 2))
  go_enter Tryz.func147,Tryz.ntmps147
  go_wp2_with fail
  refine(vL HA.out zM HLI.out (by decide) (fun b e=>by injection e with e;have:=HGL.out;simp at e;omega)).mono ?_;rintro e w1 ⟨x,a2,rfl,hx,ha2,hs⟩;have HS:=xL (HA.out.next hs);clear hs;have hx2:0≤x∧x≤2147483647:=(by simp at hx;omega);clear hx;go_wp2;go_ret
  exact⟨_,a2,rfl,yVz (lo:=0) (hi:=2147483647) rfl rfl (by decide) hx2 (by unfold Smp;omega) zM,by omega,HS.out⟩
 have b11:(k == 11)=false:=by simpa using q11
 by_cases q13:k=13
 ·
  subst q13;have ht2:=ht rfl
  go_enter Tryz.func147,Tryz.ntmps147
  go_wp2_with fail
  refine(wJ H.out zM zM).mono ?_;rintro e w1 ⟨x,a2,rfl,hx,ha2,hs⟩;have HS:=xL hs;clear hs;go_wp2;go_ret
  exact⟨_,a2,rfl,yVz (lo:=0) (hi:=3) rfl rfl (by decide) zM (by unfold Smp;omega) zM,by omega,HS.out⟩
 have b13:(k == 13)=false:=by simpa using q13
 by_cases qh:k ∈ ([1,2,5,6,10,11,12,13,14,17]:List Int)
 ·
  have hk5:k=2∨k=5∨k=12∨k=14∨k=17:=(by simp at qh;omega);have bh:decide (k ∈ ([1,2,5,6,10,11,12,13,14,17]:List Int))=true:=decide_eq_true qh;have HOK:=xL (fun A (h:Smp A)=>avOk_has (tn:=tn) hk5 h);clear qh hk5 ht
  go_enter Tryz.func147,Tryz.ntmps147
  go_wp2_with fail
  refine(vR k _).mono ?_;rintro e w1 ⟨rfl,hb⟩;rw[bh];have H1:=xL (H.out.below hb);clear hb bh;go_wp2_with fail
  refine(uM H1.out zM).mono ?_;rintro e w2 ⟨x,a2,rfl,hx,ha2,hs⟩;have HS:=xL (H1.out.next hs);clear hs;go_wp2;go_ret
  exact⟨_,a2,rfl,HOK.out _ hx,by omega,HS.out⟩
 have hk7:k=3∨k=4∨k=7∨k=8∨k=9∨k=15∨k=16:=(by simp at qh;omega);have bh:decide (k ∈ ([1,2,5,6,10,11,12,13,14,17]:List Int))=false:=decide_eq_false qh;have HOK:=xL (avOk_no (tn:=tn) hk7);clear qh hk7 ht
 go_enter Tryz.func147,Tryz.ntmps147
 go_wp2_with fail
 refine(vR k _).mono ?_;rintro e w1 ⟨rfl,hb⟩;rw[bh];have H1:=xL (H.out.below hb);clear hb bh;go_wp2;go_ret
 exact⟨_,a,rfl,HOK.out,by omega,H1.out⟩
structure DrN (k tn below:Int) (x:xP):Prop where
 kind:x.zC=k
 a:AvOk k x.fA tn
 b:if (vU k).hasB then 1≤x.fB∧x.fB≤3 else x.fB=0
 arity:(x.zK.length:Int)=(vU k).inputs
 from_: ∀ f ∈ x.zK,0≤f∧(f<below∨f=0)
theorem knd_inputs {k:Int} (h:1≤k∧k≤17):0≤(vU k).inputs∧(vU k).inputs≤3:=by
 have:k=1∨k=2∨k=3∨k=4∨k=5∨k=6∨k=7∨k=8∨k=9∨k=10∨k=11∨k=12∨k=13∨k=14∨k=15∨k=16∨k=17:=by omega
 rcases this with rfl|rfl|rfl|rfl|rfl|rfl|rfl|rfl|rfl|rfl|rfl|rfl|rfl|rfl|rfl|rfl|rfl<;>decide
theorem knd_hasB {k:Int} (h:1≤k∧k≤17):(vU k).hasB=decide (k=17):=by
 have:k=1∨k=2∨k=3∨k=4∨k=5∨k=6∨k=7∨k=8∨k=9∨k=10∨k=11∨k=12∨k=13∨k=14∨k=15∨k=16∨k=17:=by omega
 rcases this with rfl|rfl|rfl|rfl|rfl|rfl|rfl|rfl|rfl|rfl|rfl|rfl|rfl|rfl|rfl|rfl|rfl<;>decide
theorem yWz {w:World} {g a:Nat} {cv:Value} {bs:List UInt8} {k tn below:Int} (h:Sx w w g cv bs a) (ha:a≤1070000000) (hk:inB k 1 17=true) (ht:k=13→1≤tn∧tn≤4) (hb:below≤60000):Calls Tryz.prog 121 #[.pointer (some ⟨g,0,none⟩),.int .i64 k,.int .i64 tn,.int .i64 below] w fun e w'=> ∃ (A B:Int) (fr:List Int) (sA:Option Addr) (sL sC a2:Nat),e= .returned (.agg #[.int .i64 k,.int .i64 A,.int .i64 B,.slice sA sL sC])∧OwI 2 w' w.heap.size (.slice sA sL sC) fr∧DrN k tn below ⟨k,A,B,fr⟩∧a2≤a+20∧Sx w w' g cv bs a2:=by
 have H:=xL h;have HGL:=xL h.gin;have HK:=xL hk;have hk:=xI.1 hk;have HT:=xL ht;clear h ht;have HR:=xL (Bk.born w 120 #[.int .i64 0,.int .i64 0,.int .i64 0,.slice none 0 0]);have H0:=xL (H.out.alloc (.cells #[.int .i64 0,.int .i64 0,.int .i64 0,.slice none 0 0] 120));generalize hW:(w.alloc (.cells #[.int .i64 0,.int .i64 0,.int .i64 0,.slice none 0 0] 120))=W0 at *;have HW:=xL hW;have hzW:w.heap.size<W0.heap.size:=HR.out.lt;clear hW
 go_enter Tryz.func121,Tryz.ntmps121
 go_wp2_with fail
 rw[HW.out];refine(x_l06DrawA H0.out.base zM HK.out HT.out).mono ?_;rintro e w1 ⟨A,a1,rfl,hA,ha1,hs⟩;have HS1:=xL (H0.out.next hs);have HR1:=xL (HR.out.trn hs.trn (by simp;have:=HGL.out;omega));have hz1:=hs.size;clear hs HR;have HF:=xL (show OwI 2 ((w1.alloc (.cells #[] 2)).alloc (.cells #[.int .i64 k,.int .i64 A,.int .i64 0,.slice (some ⟨w1.heap.size,0,none⟩) 0 0] 120)) w1.heap.size (.slice (some ⟨w1.heap.size,0,none⟩) 0 0) [] from yZz (uX w1) (zR.alloc zJ _));have HB2:=xL (((Below.refl w1.heap.size w1).alloc zJ (.cells #[] 2)).alloc (by simp) (.cells #[.int .i64 k,.int .i64 A,.int .i64 0,.slice (some ⟨w1.heap.size,0,none⟩) 0 0] 120));have HS2:=xL (HS1.out.below HB2.out);have HR2:=xL (HR1.out.below HB2.out HR1.out.lt);have HX2:Sec (Bk _ (w1.heap.size+1) 120 #[.int .i64 k,.int .i64 A,.int .i64 0,.slice (some ⟨w1.heap.size,0,none⟩) 0 0]):=xL (Bk.born1' w1 (.cells #[] 2) 120 #[.int .i64 k,.int .i64 A,.int .i64 0,.slice (some ⟨w1.heap.size,0,none⟩) 0 0]);generalize hW2:((w1.alloc (.cells #[] 2)).alloc (.cells #[.int .i64 k,.int .i64 A,.int .i64 0,.slice (some ⟨w1.heap.size,0,none⟩) 0 0] 120))=W2 at *;have HW2:=xL hW2;have hz2:w1.heap.size+1<W2.heap.size:=HX2.out.lt;clear hW2;go_wp2_with fail
 rw[HW2.out];refine(yMz k HK.out _).mono ?_;rintro e w3 ⟨rfl,hb3⟩;have HS3:=xL (HS2.out.below hb3);have HR3:=xL (HR2.out.below hb3 HR2.out.lt);have HX3:=xL (HX2.out.below hb3 HX2.out.lt);have HF3:=xL (yZz HF.out hb3);have hz3:=hb3.size;clear hb3 HF HB2 HS2 HR2 HX2;have hin:=knd_inputs hk;obtain⟨m0,hm0⟩: ∃ q:Nat,(vU k).inputs=(q:Int):=⟨(vU k).inputs.toNat,by omega⟩;rw[hm0];have HM0:=xL hm0;have hm3:m0≤3:=by omega
 clear hm0 hin;have kX:=HX3.out.cell;have mX:=HX3.out.lt;have fX:=HX3.out.free;have kR:=HR3.out.cell;have mR:=HR3.out.lt;have fR:=HR3.out.free;go_wp2;clear kX mX fX kR mR fR
 go_loopw [10] (fun mm wr=> ∃ (m c:Nat) (fr:List Int) (tA:Option Addr) (tL tC:Nat),m≤m0∧mm= .int .i64 (m:Int)∧(∀ f ∈ fr,0≤f∧(f<below∨f=0))∧fr.length+m=m0∧c≤a1+2 * (m0 - m)∧Sx w wr g cv bs c∧OwI 2 wr w1.heap.size (.slice tA tL tC) fr∧Bk wr (w1.heap.size+1) 120 #[.int .i64 k,.int .i64 A,.int .i64 0,.slice tA tL tC]∧(∀ b,(Value.slice tA tL tC).ownBlock=some b→b≠w1.heap.size+1)∧Bk wr w.heap.size 120 #[.int .i64 0,.int .i64 0,.int .i64 0,.slice none 0 0]∧w3.heap.size≤wr.heap.size) (fun mm _=>(intOf mm).toNat)
 case atStart=>exact⟨m0,a1,[],_,_,_,zJ,rfl,by simp,by simp,by omega,HS3.out,HF3.out,HX3.out,(fun b e=>by simp[Value.ownBlock] at e;omega),HR3.out,zJ⟩
 case round=>
  obtain⟨m,c,fr,tA,tL,tC,hmK,rfl,hfr,hfl,hc,hs,hf,hx,hd,hr,hz⟩:=hrel;have HS:=xL hs;have HF:=xL hf;have HX:=xL hx;have HD:=xL hd;have HR:=xL hr;have HFR:=xL hfr;clear hs hf hx hd hr hfr;have kX:=HX.out.cell;have mX:=HX.out.lt;have fX:=HX.out.free;have kR:=HR.out.cell;have mR:=HR.out.lt;have fR:=HR.out.free;by_cases hm:0<m
  rotate_left
  ·
   obtain rfl:m=0:=by omega
   have HBK:=xL (knd_hasB hk);by_cases q17:k=17
   ·
    subst q17;go_wp2_with fail
    refine(wJ HS.out zM zM).mono ?_;rintro e w4 ⟨x,a2,rfl,hx,ha2,hs⟩;have hg1:w1.heap.size+1 ∉ [g]:=(by simp;have:=HGL.out;omega);have hg2:w.heap.size ∉ [g]:=(by simp;have:=HGL.out;omega);have HS4:=xL (HS.out.next hs);have HF4:=xL (Sx.ints HF.out (by have:=HGL.out;omega) hs.trn);have HX4:=xL (HX.out.trn hs.trn hg1);have HR4:=xL (HR.out.trn hs.trn hg2);clear hs hg1 hg2 kX mX fX kR mR fR;have hw:IntKind.i64.wrap (1+x)=1+x:=IntWalk.i64_in _ zM;have kX:=HX4.out.cell;have mX:=HX4.out.lt;have fX:=HX4.out.free;have kR:=HR4.out.cell;have mR:=HR4.out.lt;have fR:=HR4.out.free;go_wp2;refine bodyPost_ret (v:= .agg #[.int .i64 17,.int .i64 A,.int .i64 (1+x),.slice tA tL tC]) (by simp[results,Tryz.results121,go_sem,kR,fR,mR]) rfl ?_;exact⟨A,1+x,fr,tA,tL,tC,a2,rfl,(OwI.far (OwI.far (OwI.far (OwI.far (HF4.out.more zM |>.far (p:=⟨w1.heap.size+1,2,none⟩) (fun b e=>HD.out b e) _) (p:=⟨w.heap.size,0,none⟩) (fun b e=>by have h1:=(HF4.out.lt b e).1;show b≠w.heap.size;omega) _) (p:=⟨w.heap.size,1,none⟩) (fun b e=>by have h1:=(HF4.out.lt b e).1;show b≠w.heap.size;omega) _) (p:=⟨w.heap.size,2,none⟩) (fun b e=>by have h1:=(HF4.out.lt b e).1;show b≠w.heap.size;omega) _) (p:=⟨w.heap.size,3,none⟩) (fun b e=>by have h1:=(HF4.out.lt b e).1;show b≠w.heap.size;omega) _),⟨rfl,hA,by rw[HBK.out];simp;omega,by show (fr.length:Int)=_;rw[HM0.out];omega,HFR.out⟩,by omega,(((((HS4.out.set_ zM _ _).set_ zJ _ _).set_ zJ _ _).set_ zJ _ _).set_ zJ _ _)⟩
   have b17:(k == 17)=false:=by simpa using q17
   go_wp2;refine bodyPost_ret (v:= .agg #[.int .i64 k,.int .i64 A,.int .i64 0,.slice tA tL tC]) (by simp[results,Tryz.results121,go_sem,kR,fR,mR]) rfl ?_;exact⟨A,0,fr,tA,tL,tC,c,rfl,(OwI.far (OwI.far (OwI.far (OwI.far (HF.out.more zM) (p:=⟨w.heap.size,0,none⟩) (fun b e=>by have h1:=(HF.out.lt b e).1;show b≠w.heap.size;omega) _) (p:=⟨w.heap.size,1,none⟩) (fun b e=>by have h1:=(HF.out.lt b e).1;show b≠w.heap.size;omega) _) (p:=⟨w.heap.size,2,none⟩) (fun b e=>by have h1:=(HF.out.lt b e).1;show b≠w.heap.size;omega) _) (p:=⟨w.heap.size,3,none⟩) (fun b e=>by have h1:=(HF.out.lt b e).1;show b≠w.heap.size;omega) _),⟨rfl,hA,by rw[HBK.out];simp[q17],by show (fr.length:Int)=_;rw[HM0.out];omega,HFR.out⟩,by omega,((((HS.out.set_ zJ _ _).set_ zJ _ _).set_ zJ _ _).set_ zJ _ _)⟩
  have hgl:=HGL.out;have hg1:w1.heap.size+1 ∉ [g]:=(by simp;omega);have hg2:w.heap.size ∉ [g]:=(by simp;omega);go_wp2;clear kX mX fX kR mR fR;have hdr:=(Below.refl wr.heap.size wr).drew;have HSd:=xL (HS.out.drew);have HXd:=xL (HX.out.below hdr HX.out.lt);have HFd:=xL (show OwI 2 wr.drew w1.heap.size (.slice tA tL tC) fr from yZz HF.out hdr);have HRd:=xL (HR.out.below hdr HR.out.lt);have hzd:w3.heap.size≤wr.drew.heap.size:=hz;clear hdr;refine wM (fun w'=>(∀ i,w'.cell? ⟨w1.heap.size+1,i,none⟩= #[.int .i64 k,.int .i64 A,.int .i64 0,.slice tA tL tC][i]?)) [7,8] (by kernel_rfl) ?_ (fun hS0=>?_)
  ·exact HXd.out.cell
  generalize hwd:wr.drew=we at *;clear hwd;refine zN 0 hS0 ?_;refine zN 1 hS0 ?_;refine zN 2 hS0 ?_;refine zN 3 hS0 ?_;refine pN 4 (fun K hK=>?_);go_simp;go_wp2_with (go_at_call 18;refine(wJ HSd.out zM hb).mono ?_;rintro e w4 ⟨x,c2,rfl,hx,hc2,hs⟩)
  have HS4:=xL (HSd.out.next hs);have HF4:=xL (Sx.ints HFd.out zM hs.trn);have HX4:=xL (HXd.out.trn hs.trn hg1);have HR4:=xL (HRd.out.trn hs.trn hg2);have hz4:w3.heap.size≤w4.heap.size:=Nat.le_trans hzd hs.size;clear hs;refine uN hK ?_ (fun hS1=>?_)
  ·exact HX4.out.cell
  clear hK K hS0;have ha5:=(show Below w4.heap.size w4 (w4.alloc (.cells #[.int .i64 x] 2)) from zR.alloc zJ _);have HL5:=xL (OwI.rd (lit1 w4 x));have HS5:=xL (HS4.out.below ha5);have HF5:=xL (show OwI 2 (w4.alloc (.cells #[.int .i64 x] 2)) w1.heap.size (.slice tA tL tC) fr from yZz HF4.out ha5);have HX5:=xL (HX4.out.below ha5 HX4.out.lt);have HR5:=xL (HR4.out.below ha5 HR4.out.lt);have hz5:w3.heap.size≤(w4.alloc (.cells #[.int .i64 x] 2)).heap.size:=Nat.le_trans hz4 ha5.size;clear ha5;generalize hw5:(w4.alloc (.cells #[.int .i64 x] 2))=w5 at *;refine pN 5 (fun K hK=>?_);go_simp
  try rw[hw5]
  refine uN hK ?_ (fun hS2=>?_)
  ·exact HX5.out.cell
  clear hK K hS1;have HW5:=xL hw5;clear hw5;refine pN 6 (fun K hK=>?_);refine zKz rfl _ _ rfl rfl HF5.out (ys:= [x]) rfl HL5.out (by simp only[List.length_cons,List.length_nil];omega) zM ?_;intro v8 w8 ho8 hg8 hv8;obtain⟨t8,l8,c8,rfl⟩:=T.xC (T.ow_ints.2 ⟨ho8.more (Nat.zero_le _),rfl⟩);have HF8:=xL ho8;have HS8:=xL (HS5.out.grown hg8 (fun b e=>by have:=(HF5.out.lt b e).1;omega));have HX8:=xL (HX5.out.grown hg8 (fun e=>HD.out _ e.symm rfl));have HR8:=xL (HR5.out.grown hg8 (fun e=>by have:=(HF5.out.lt _ e.symm).1;omega));have hz8:w3.heap.size≤w8.heap.size:=Nat.le_trans hz5 hg8.size;have HD8:=xL (fun b (e:(Value.slice t8 l8 c8).ownBlock=some b)=>(show b≠w1.heap.size+1 from by rcases hv8 b e with h1|h1;(· exact HD.out b h1);(· have:=HX5.out.lt;omega)));clear ho8 hg8 hv8;refine uN hK ?_ (fun hS3=>?_)
  ·exact HX8.out.cell
  clear hK K hS2;refine q2N 7 8 ?_;have kX:=HX8.out.cell;have mX:=HX8.out.lt;have fX:=HX8.out.free;have HFR2:=xL (show ∀ f ∈ fr++ [x],0≤f∧(f<below∨f=0) from fun f hf=>by rcases List.mem_append.1 hf with h1|h1;(· exact HFR.out f h1);(· simp at h1;subst h1;exact hx));go_wp2
  go_roundw
  case rel=>exact⟨m - 1,c2,fr++ [x],t8,l8,c8,by omega,by go_num,HFR2.out,by rw[List.length_append];simp;omega,by omega,HS8.out.set_ zM _ _,OwI.far HF8.out (p:=⟨w1.heap.size+1,3,none⟩) (fun b e=>HD8.out b e) _,(by have:=HX8.out.set_ 3 (.slice t8 l8 c8);simpa using this),HD8.out,HR8.out.far (p:=⟨w1.heap.size+1,3,none⟩) (by show w.heap.size≠w1.heap.size+1;omega) _,by simpa[World.setCell] using hz8⟩
  case measure=>first|(simp[intOf];done)|(simp[intOf];omega)
end
end Go.Proofs.YtdcofkabaigjpaaGreat
