/- Contracts: what is valid, by the reference: clips, tracks, names, mixers. Plain laws on decimal numbers: what is written is read back. No program is named here. Contract: the text of a mark. -/
import Derived.Test.YtoibekfhepnedaaGreatQAcExactMix
import Derived.Test.YtoibekfhepnedaaGreatQAaExactMix
import Derived.Lib.ItoaNum
import Derived.Lib.ItoaLen
import Derived.Lib.ParseIntB
import Derived.Lib.ParseIntBCases
import Derived.Lib.ParseIntBTie
import Derived.Test.YtoibekfhepnedaaGreatQAbExactMix
set_option linter.unusedVariables false
set_option linter.unusedSimpArgs false
set_option maxHeartbeats 2000000
set_option maxRecDepth 20000
namespace Go.Proofs.YtoibekfhepnedaaGreat
section
open Go.RowKit
theorem T.at_sub {w:World} {fs:List T} {b o:Nat} (pre sub post:List Value) (hb:b<w.heap.size) (hc: ∀ j u,(pre++(sub++post))[j]?=some u→w.cell? ⟨b,o+j,none⟩=some u) (h:T.rds w fs sub):T.at w fs b (o+pre.length):=
 ⟨hb,sub,h,fun j u hj=>by
  have hl:=(List.getElem?_eq_some_iff.1 hj).1;have:=hc (pre.length+j) u (by rw[List.getElem?_append_right zM,Nat.add_sub_cancel_left,List.getElem?_append_left hl];exact hj)
  rwa [←Nat.add_assoc] at this⟩
theorem vIz (x:xU) (b o:Nat) (w:World) (h:T.at w x.fs b o):Calls Tryz.prog 157 #[.pointer (some ⟨b,o,none⟩)] w fun e w'=>e= .returned (.bool (tf (vPz x)))∧Below w.heap.size w w':=by
 have HAT:=xN h;obtain⟨hlt0,cs,hr,hc⟩:=h;obtain rfl:=xU.yV hr;clear hr;have HL:=xN hlt0;have HCC:=xN hc;have HB0:=xN (Below.refl w.heap.size w);clear hlt0 hc;have p0:w.cell? ⟨b,o,none⟩=some (.int .i64 x.yD):=(HB0.out.cell HL.out).trans (HCC.out 0 _ rfl);have p1:w.cell? ⟨b,o+1,none⟩=some (.int .i64 x.zK):=(HB0.out.cell HL.out).trans (HCC.out 1 _ rfl);have p2:w.cell? ⟨b,o+2,none⟩=some (.int .i64 x.zF):=(HB0.out.cell HL.out).trans (HCC.out 2 _ rfl);have p3:w.cell? ⟨b,o+3,none⟩=some (.int .i64 x.yH):=(HB0.out.cell HL.out).trans (HCC.out 3 _ rfl);have p4:w.cell? ⟨b,o+4,none⟩=some (.int .i64 x.yB):=(HB0.out.cell HL.out).trans (HCC.out 4 _ rfl);have lb:b<w.heap.size:=zW HL.out HB0.out.size
 go_enter Tryz.func157,Tryz.ntmps157
 by_cases q1:inB x.yD 0 5=true
 rotate_left
 ·have q1':inB x.yD 0 5=false:=(by simpa using q1)
  go_wp2_with (first|(go_at_call 87;refine(wI _ _ _ _).mono ?_;rintro e w' ⟨rfl,rfl⟩)|(go_at_call 158;refine(wT _ _).mono ?_;rintro e w' ⟨rfl,rfl⟩))
  go_ret
  exact⟨yP (xH fun h=>q1 h.source).symm,HB0.out⟩
 skip
 by_cases q2:inB x.zF 1 4000=true
 rotate_left
 ·have q2':inB x.zF 1 4000=false:=(by simpa using q2)
  go_wp2_with (first|(go_at_call 87;refine(wI _ _ _ _).mono ?_;rintro e w' ⟨rfl,rfl⟩)|(go_at_call 158;refine(wT _ _).mono ?_;rintro e w' ⟨rfl,rfl⟩))
  go_ret
  exact⟨yP (xH fun h=>q2 h.length).symm,HB0.out⟩
 have i2:=xK.1 q2;by_cases q3:Smp x.yB
 rotate_left
 ·have q3':decide (Smp x.yB)=false:=decide_eq_false q3;have Q3:=xN q3;clear q3
  go_wp2_with (first|(go_at_call 87;refine(wI _ _ _ _).mono ?_;rintro e w' ⟨rfl,rfl⟩)|(go_at_call 158;refine(wT _ _).mono ?_;rintro e w' ⟨rfl,rfl⟩))
  go_ret
  exact⟨yP (xH fun h=>Q3.out h.gain).symm,HB0.out⟩
 have q3':decide (Smp x.yB)=true:=decide_eq_true q3;have Q3:=xN q3;clear q3;by_cases q4:inB x.zK 0 (4000 - x.zF)=true
 rotate_left
 ·have q4':inB x.zK 0 (4000 - x.zF)=false:=(by simpa using q4)
  go_wp2_with (first|(go_at_call 87;refine(wI _ _ _ _).mono ?_;rintro e w' ⟨rfl,rfl⟩)|(go_at_call 158;refine(wT _ _).mono ?_;rintro e w' ⟨rfl,rfl⟩))
  have g0:=yN p0;have g1:=yN p1;have g2:=yN p2;have g3:=yN p3;have g4:=yN p4;refine rB ?_
  repeat(first|go_big_quiet_skip|(go_big_quiet_want;go_big_quiet_op;first|go_big_quiet_on|(apply Exists.intro;refine⟨fun _=>?_,?_⟩;(· ((go_at_call 87;exact Calls.yR ((wI _ _ _ _).mono (fun e w' h=>by(first|rw[q4'] at h|skip);exact h)))));go_big_quiet_on)))
  refine wpQuiet_nil ?_;rintro w9 ⟨uu,rfl⟩;have hb9:=yO w uu;generalize bel w uu=w9 at *;have HB9:=xN (yQ HB0.out HB0.out.size hb9);clear g0 g1 g2 g3 g4;go_wp2;go_ret
  exact⟨yP (xH fun h=>q4 h.from_).symm,HB9.out⟩
 by_cases q5:inB x.yH 0 (4000 - x.zF)=true
 rotate_left
 ·have q5':inB x.yH 0 (4000 - x.zF)=false:=(by simpa using q5)
  go_wp2_with (first|(go_at_call 87;refine(wI _ _ _ _).mono ?_;rintro e w' ⟨rfl,rfl⟩)|(go_at_call 158;refine(wT _ _).mono ?_;rintro e w' ⟨rfl,rfl⟩))
  have g0:=yN p0;have g1:=yN p1;have g2:=yN p2;have g3:=yN p3;have g4:=yN p4;refine rB ?_
  repeat(first|go_big_quiet_skip|(go_big_quiet_want;go_big_quiet_op;first|go_big_quiet_on|(apply Exists.intro;refine⟨fun _=>?_,?_⟩;(· ((go_at_call 87;exact Calls.yR ((wI _ _ _ _).mono (fun e w' h=>by(first|rw[q4] at h|rw[q5'] at h|skip);exact h)))));go_big_quiet_on)))
  refine wpQuiet_nil ?_;rintro w9 ⟨uu,rfl⟩;have hb9:=yO w uu;generalize bel w uu=w9 at *;have HB9:=xN (yQ HB0.out HB0.out.size hb9);clear g0 g1 g2 g3 g4;go_wp2;go_ret
  exact⟨yP (xH fun h=>q5 h.at_).symm,HB9.out⟩
 go_wp2_with (first|(go_at_call 87;refine(wI _ _ _ _).mono ?_;rintro e w' ⟨rfl,rfl⟩)|(go_at_call 158;refine(wT _ _).mono ?_;rintro e w' ⟨rfl,rfl⟩))
 have g0:=yN p0;have g1:=yN p1;have g2:=yN p2;have g3:=yN p3;have g4:=yN p4;refine rB ?_
 repeat(first|go_big_quiet_skip|(go_big_quiet_want;go_big_quiet_op;first|go_big_quiet_on|(apply Exists.intro;refine⟨fun _=>?_,?_⟩;(· ((go_at_call 87;exact Calls.yR ((wI _ _ _ _).mono (fun e w' h=>by(first|rw[q4] at h|rw[q5] at h|skip);exact h)))));go_big_quiet_on)))
 refine wpQuiet_nil ?_;rintro w9 ⟨uu,rfl⟩;have hb9:=yO w uu;generalize bel w uu=w9 at *;have HB9:=xN (yQ HB0.out HB0.out.size hb9);clear g0 g1 g2 g3 g4;go_wp2;go_ret
 exact⟨yP (xI ⟨q1,q2,q4,q5,Q3.out⟩).symm,HB9.out⟩
theorem c_l23Ok (x:xQ) (b o:Nat) (w:World) (h:T.at w x.fs b o):Calls Tryz.prog 231 #[.pointer (some ⟨b,o,none⟩)] w fun e w'=>e= .returned (.bool (tf (zWz x)))∧Below w.heap.size w w':=by
 have HAT:=xN h;obtain⟨hlt0,cs,hr,hc⟩:=h;obtain⟨v0,rfl,h0⟩:=xQ.yV hr;clear hr;obtain⟨va0,vc0,rfl,vl0,vm0,R0,HX0⟩:=oG h0;clear h0;have HL:=xN hlt0;have HCC:=xN hc;have HB0:=xN (Below.refl w.heap.size w);clear hlt0 hc;have p0:w.cell? ⟨b,o,none⟩=some (.slice va0 x.zZ.length vc0):=(HB0.out.cell HL.out).trans (HCC.out 0 _ rfl);have lb:b<w.heap.size:=zW HL.out HB0.out.size
 go_enter Tryz.func231,Tryz.ntmps231
 go_wp2;clear p0 lb
 go_loopw [3] (fun i wr=> ∃ k:Nat,k≤x.zZ.length∧i= .int .i64 k∧vP x.zZ (fun i c=>vPz c∧ ∀ p,0<i→x.zZ[i - 1]?=some p→p.yH≤c.yH) k∧Below w.heap.size w wr) (fun i _=>x.zZ.length - (intOf i).toNat)
 case atStart=>exact⟨0,Nat.zero_le _,rfl,vP.zero,zR⟩
 case round=>
  obtain⟨k,hk,rfl,hs,hbw⟩:=hrel;have HS:=xN hs;have HW:=xN hbw;have HB:=xN (yQ HB0.out HB0.out.size hbw);clear hs hbw;have p0:wr.cell? ⟨b,o,none⟩=some (.slice va0 x.zZ.length vc0):=(HB.out.cell HL.out).trans (HCC.out 0 _ rfl);have lb:b<wr.heap.size:=zW HL.out HB.out.size;by_cases hlt:k<x.zZ.length
  rotate_left
  ·have hall:=xN (HS.out.all zM);clear HS
   by_cases h12:x.zZ.length≤12
   ·go_wp2
    go_ret
    exact⟨yP (by rw[xI ⟨hall.out,h12⟩];exact decide_eq_true zM),HB.out⟩
   ·go_wp2
    go_ret
    exact⟨yP (by rw[xH fun h=>h12 h.few];exact decide_eq_false zM),HB.out⟩
  have hgk:=gE hlt;obtain⟨b1,off,csy,hA,hb1,hcs,hcell⟩:=HX0.out k x.zZ[k] hgk;subst hA;generalize x.zZ[k]=y at *;have HG:=xN hgk;clear hgk;have HAy:=xN (T.at_elem (o:=off+k * 5) hb1 (show T.rds w y.fs csy by simpa only[xU.t,T.rd] using hcs) hcell zM);clear hcs hcell;have n1:((k:Int)<(x.zZ.length:Int)):=by omega
  by_cases hk0:k=0
  ·have g0':decide (0<k)=false:=decide_eq_false zM
   have K0:=xN hk0;clear hk0;by_cases q1:vPz y
   ·have a1:=xI q1;have Q1:=xN q1;clear q1
    go_wp2;have g0:=yN p0;refine rB ?_
    repeat(first|go_big_quiet_skip|(go_big_quiet_want;go_big_quiet_op;first|go_big_quiet_on|(apply Exists.intro;refine⟨fun _=>?_,?_⟩;(· (go_at_call 157;exact Calls.yS ((vIz y _ _ _ (T.at_below HAy.out (yQ HB.out HB.out.size (yO wr _)))).mono (fun e w' h=>by rw[a1] at h;exact h))));go_big_quiet_on)))
    refine wpQuiet_nil ?_;rintro w9 ⟨uu,rfl⟩;have hb9:=yO wr uu;generalize bel wr uu=w9 at *;have HB9:=xN (yQ HB.out HB.out.size hb9);clear g0;have HW9:=xN (yQ HW.out HW.out.size hb9);clear hb9;go_wp2
    go_roundw
    case rel=>exact⟨k+1,by omega,by go_num,HS.out.step HG.out ⟨Q1.out,fun p h=>by have:=K0.out;omega⟩,HW9.out⟩
    case measure=>simp[intOf];omega
   ·have a1:=xH q1;have Q1:=xN q1;clear q1
    go_wp2;have g0:=yN p0;refine rB ?_
    repeat(first|go_big_quiet_skip|(go_big_quiet_want;go_big_quiet_op;first|go_big_quiet_on|(apply Exists.intro;refine⟨fun _=>?_,?_⟩;(· (go_at_call 157;exact Calls.yS ((vIz y _ _ _ (T.at_below HAy.out (yQ HB.out HB.out.size (yO wr _)))).mono (fun e w' h=>by rw[a1] at h;exact h))));go_big_quiet_on)))
    refine wpQuiet_nil ?_;rintro w9 ⟨uu,rfl⟩;have hb9:=yO wr uu;generalize bel wr uu=w9 at *;have HB9:=xN (yQ HB.out HB.out.size hb9);clear g0;have HW9:=xN (yQ HW.out HW.out.size hb9);clear hb9;go_wp2;go_ret
    exact⟨yP (xH fun h=>Q1.out (h.clips k y HG.out).1).symm,HB9.out⟩
  obtain⟨j,rfl⟩: ∃ j,k=j+1:=⟨k - 1,by omega⟩;clear hk0;have hltj:j<x.zZ.length:=by omega
  have hgk:=gE hltj;obtain⟨b2,off2,csz,hA,hb2,hcs,hcell⟩:=HX0.out j x.zZ[j] hgk;obtain⟨rfl,rfl⟩:b1=b2∧off=off2:=by injection hA with hA;injection hA with e1 e2;exact⟨e1,e2⟩
  clear hA;generalize x.zZ[j]=z at *;have HJ:=xN hgk;clear hgk;have HAz:=xN (T.at_elem (o:=off+j * 5) hb2 (show T.rds w z.fs csz by simpa only[xU.t,T.rd] using hcs) hcell zM);clear hcs hcell;obtain⟨_,csy',hry,hcy⟩:=HAy.out;obtain rfl:=xU.yV hry;have cy3:wr.cell? ⟨b1,off+(j+1) * 5+3,none⟩=some (.int .i64 y.yH):=(HB.out.cell hb1).trans (hcy 3 _ rfl);obtain⟨_,csz',hrz,hcz⟩:=HAz.out;obtain rfl:=xU.yV hrz;have cz3:wr.cell? ⟨b1,off+j * 5+3,none⟩=some (.int .i64 z.yH):=(HB.out.cell hb1).trans (hcz 3 _ rfl);clear hry hcy hrz hcz;have e1:IntKind.i64.wrap ((j:Int)+1 - 1)=(j:Int):=by rw[IntWalk.i64_in _ zM];omega
  have e2:IntKind.i64.wrap (j:Int)=(j:Int):=IntWalk.i64_in _ zM;have n0:(0:Int)≤(j:Int):=by omega
  have n2:((j:Int)<(x.zZ.length:Int)):=by omega
  have n3:((j:Int)+1<(x.zZ.length:Int)):=by omega
  have n4:(0:Int)≤(j:Int)+1:=by omega
  by_cases q1:vPz y
  rotate_left
  ·have a1:=xH q1;have Q1:=xN q1;clear q1
   go_wp2;have g0:=yN p0;have g1:=yN cy3;have g2:=yN cz3;refine rB ?_
   repeat(first|go_big_quiet_skip|(go_big_quiet_want;go_big_quiet_op;first|go_big_quiet_on|(apply Exists.intro;refine⟨fun _=>?_,?_⟩;(· (go_at_call 157;exact Calls.yS ((vIz y _ _ _ (T.at_below HAy.out (yQ HB.out HB.out.size (yO wr _)))).mono (fun e w' h=>by rw[a1] at h;exact h))));go_big_quiet_on)))
   refine wpQuiet_nil ?_;rintro w9 ⟨uu,rfl⟩;have hb9:=yO wr uu;generalize bel wr uu=w9 at *;have HB9:=xN (yQ HB.out HB.out.size hb9);clear g0 g1 g2;have HW9:=xN (yQ HW.out HW.out.size hb9);clear hb9;go_wp2;go_ret
   exact⟨yP (xH fun h=>Q1.out (h.clips (j+1) y HG.out).1).symm,HB9.out⟩
  have a1:=xI q1;have Q1:=xN q1;clear q1;by_cases q2:y.yH<z.yH
  ·have q2':decide (y.yH<z.yH)=true:=decide_eq_true q2;have Q2:=xN q2
   go_wp2;have g0:=yN p0;have g1:=yN cy3;have g2:=yN cz3;refine rB ?_
   repeat(first|go_big_quiet_skip|(go_big_quiet_want;go_big_quiet_op;first|go_big_quiet_on|(apply Exists.intro;refine⟨fun _=>?_,?_⟩;(· (go_at_call 157;exact Calls.yS ((vIz y _ _ _ (T.at_below HAy.out (yQ HB.out HB.out.size (yO wr _)))).mono (fun e w' h=>by rw[a1] at h;exact h))));go_big_quiet_on)))
   refine wpQuiet_nil ?_;rintro w9 ⟨uu,rfl⟩;have hb9:=yO wr uu;generalize bel wr uu=w9 at *;have HB9:=xN (yQ HB.out HB.out.size hb9);clear g0 g1 g2;have HW9:=xN (yQ HW.out HW.out.size hb9);clear hb9;go_wp2;go_ret
   exact⟨yP (xH fun h=>by have:=(h.clips (j+1) y HG.out).2 z zM HJ.out;have:=Q2.out;omega).symm,HB9.out⟩
  have q2':decide (y.yH<z.yH)=false:=decide_eq_false q2;go_wp2;have g0:=yN p0;have g1:=yN cy3;have g2:=yN cz3;refine rB ?_
  repeat(first|go_big_quiet_skip|(go_big_quiet_want;go_big_quiet_op;first|go_big_quiet_on|(apply Exists.intro;refine⟨fun _=>?_,?_⟩;(· (go_at_call 157;exact Calls.yS ((vIz y _ _ _ (T.at_below HAy.out (yQ HB.out HB.out.size (yO wr _)))).mono (fun e w' h=>by rw[a1] at h;exact h))));go_big_quiet_on)))
  refine wpQuiet_nil ?_;rintro w9 ⟨uu,rfl⟩;have hb9:=yO wr uu;generalize bel wr uu=w9 at *;have HB9:=xN (yQ HB.out HB.out.size hb9);clear g0 g1 g2;have HW9:=xN (yQ HW.out HW.out.size hb9);clear hb9;go_wp2
  go_roundw
  case rel=>exact⟨j+1+1,by omega,by go_num,HS.out.step HG.out ⟨Q1.out,fun p _ hp=>by rw[Nat.add_sub_cancel,HJ.out] at hp;injection hp with hp;subst hp;omega⟩,HW9.out⟩
  case measure=>simp[intOf];omega
theorem c_sValidTrack (x:xQ) (cs:List Value) (w:World) (h:T.rds w x.fs cs):Calls Tryz.prog 179 #[.agg cs.toArray] w fun e w'=>e= .returned (.bool (tf (zWz x)))∧Below w.heap.size w w':=by
 obtain⟨v0,rfl,h0⟩:=xQ.yV h;clear h;obtain⟨va0,vc0,rfl,vl0,vm0,R0,HX0⟩:=oG h0;clear h0;have HB0:=xN (show Below w.heap.size w (w.alloc (.cells #[(.slice va0 x.zZ.length vc0)] 96)) from zR.alloc zJ _);have HK0:=xN (Bk.born w 96 #[(.slice va0 x.zZ.length vc0)])
 go_enter Tryz.func179,Tryz.ntmps179
 go_wp2_with fail
 refine(c_l23Ok x _ _ _ (T.at_bk HK0.out (xQ.rd_mk (T.yM R0.out HB0.out)))).mono ?_;rintro e w1 ⟨rfl,hd⟩;have H1:=xN (yQ HB0.out HB0.out.size hd);clear hd;go_wp2;go_ret
 exact⟨rfl,H1.out⟩
theorem yAy (x:xQ) (b o:Nat) (n:Int) (w:World) (n0:0≤n) (n1:n≤1048576) (h:T.at w x.fs b o):Calls Tryz.prog 124 #[.pointer (some ⟨b,o,none⟩),.int .i64 n] w fun e w'=>e= .returned (.bool (tf (zWz x∧Each x.zZ fun _ c=>c.yD<n)))∧Below w.heap.size w w':=by
 have HAT:=xN h;obtain⟨hlt0,cs,hr,hc⟩:=h;obtain⟨v0,rfl,h0⟩:=xQ.yV hr;clear hr;obtain⟨va0,vc0,rfl,vl0,vm0,R0,HX0⟩:=oG h0;clear h0;have HL:=xN hlt0;have HCC:=xN hc;have HB0:=xN (Below.refl w.heap.size w);clear hlt0 hc;have p0:w.cell? ⟨b,o,none⟩=some (.slice va0 x.zZ.length vc0):=(HB0.out.cell HL.out).trans (HCC.out 0 _ rfl);have lb:b<w.heap.size:=zW HL.out HB0.out.size
 go_enter Tryz.func124,Tryz.ntmps124
 go_wp2;clear p0 lb
 go_loopw [5] (fun i wr=> ∃ k:Nat,k≤x.zZ.length∧i= .int .i64 k∧vP x.zZ (fun _ c=>inB c.yD 0 (n - 1)=true) k∧Below w.heap.size w wr) (fun i _=>x.zZ.length - (intOf i).toNat)
 case atStart=>exact⟨0,Nat.zero_le _,rfl,vP.zero,zR⟩
 case round=>
  obtain⟨k,hk,rfl,hs,hbw⟩:=hrel;have HS:=xN hs;have HW:=xN hbw;have HB:=xN (yQ HB0.out HB0.out.size hbw);clear hs hbw;have p0:wr.cell? ⟨b,o,none⟩=some (.slice va0 x.zZ.length vc0):=(HB.out.cell HL.out).trans (HCC.out 0 _ rfl);have lb:b<wr.heap.size:=zW HL.out HB.out.size;by_cases hlt:k<x.zZ.length
  rotate_left
  ·have hall:=xN (HS.out.all zM);clear HS
   go_wp2_with fail
   refine(c_sValidTrack x _ _ (xQ.rd_mk (T.yM R0.out HB.out))).mono ?_;rintro e w2 ⟨rfl,hb2⟩;have H2:=xN (yQ HB.out HB.out.size hb2);clear hb2;go_wp2;go_ret
   exact⟨yP (tf_iff ⟨fun h=>⟨h,fun i c hc=>by have:=xK.1 (hall.out i c hc);omega⟩,fun h=>h.1⟩),H2.out⟩
  have hgk:=gE hlt;obtain⟨b1,off,csy,hA,hb1,hcs,hcell⟩:=HX0.out k x.zZ[k] hgk;subst hA;generalize x.zZ[k]=y at *;have HG:=xN hgk;clear hgk;have HAy:=xN (T.at_elem (o:=off+k * 5) hb1 (show T.rds w y.fs csy by simpa only[xU.t,T.rd] using hcs) hcell zM);clear hcs hcell;obtain⟨_,csy',hry,hcy⟩:=HAy.out;obtain rfl:=xU.yV hry;have cy0:wr.cell? ⟨b1,off+k * 5,none⟩=some (.int .i64 y.yD):=(HB.out.cell hb1).trans (hcy 0 _ rfl);have hq1:b1<wr.heap.size:=zW hb1 HB.out.size;clear hry hcy;by_cases q1:inB y.yD 0 (n - 1)=true
  rotate_left
  ·have q1':inB y.yD 0 (n - 1)=false:=(by simpa using q1)
   go_wp2_with (go_at_call 87;refine(wI _ _ _ _).mono ?_;rintro e w' ⟨rfl,rfl⟩)
   go_ret
   exact⟨yP (xH fun h=>by have h1:=(h.1.clips k y HG.out).1.source;have h2:=h.2 k y HG.out;exact q1 (xK.2 ⟨(xK.1 h1).1,by omega⟩)).symm,HB.out⟩
  go_wp2_with (go_at_call 87;refine(wI _ _ _ _).mono ?_;rintro e w' ⟨rfl,rfl⟩)
  go_roundw
  case rel=>exact⟨k+1,by omega,by go_num,HS.out.step HG.out q1,HW.out⟩
  case measure=>simp[intOf];omega
theorem xYz (x:Nat) (w:World):Calls Tryz.prog 266 #[.int .u8 (x:Int)] w fun e w'=>e= .returned (.bool (decide (97≤x∧x≤122)))∧w=w':=by
 by_cases h:97≤x
 all_goals
  go_enter Tryz.func266,Tryz.ntmps266
  go_wp2;go_ret
  exact⟨yP (by by_cases h2:x≤122<;>first|rfl|(simp[h,h2];done)|(simp[h,h2];omega)),rfl⟩
theorem xZz (x:Nat) (w:World):Calls Tryz.prog 267 #[.int .u8 (x:Int)] w fun e w'=>e= .returned (.bool (decide (48≤x∧x≤57)))∧w=w':=by
 by_cases h:48≤x
 all_goals
  go_enter Tryz.func267,Tryz.ntmps267
  go_wp2;go_ret
  exact⟨yP (by by_cases h2:x≤57<;>first|rfl|(simp[h,h2];done)|(simp[h,h2];omega)),rfl⟩
theorem ne_of_size {s:ByteArray} (h:1≤s.size):s.toList.isEmpty=false:=by
 rw[toList_eq];have hl:s.data.toList.length=s.size:=by rw[Array.length_toList];rfl
 generalize s.data.toList=l at *
 cases l with
 |nil=>simp at hl;omega
 |cons a t=>rfl
theorem xLz (s:ByteArray) (w:World):Calls Tryz.prog 230 #[.string s] w fun e w'=>e= .returned (.bool (tf (NameOk s)))∧w=w':=by
 by_cases h1:1≤s.size
 rotate_left
 ·have hs:s=ByteArray.empty:=by apply ByteArray.ext;apply Array.toList_inj.1;apply List.eq_nil_of_length_eq_zero;rw[Array.length_toList];have:s.data.size=s.size:=rfl;omega
  subst hs
  go_enter Tryz.func230,Tryz.ntmps230
  go_wp2;go_ret
  exact⟨yP (xH fun h=>h1 h.some_).symm,rfl⟩
 have hne:=ne_of_size h1;have HNE:=xN hne;by_cases h2:s.size≤10
 rotate_left
 ·go_enter Tryz.func230,Tryz.ntmps230
  go_wp2;go_ret
  exact⟨yP (xH fun h=>h2 h.few).symm,rfl⟩
 have hg0:=bA_get (s:=s) (n:=0) zM;have hb0:=bA_lt s 0;by_cases h3:97≤bA s 0∧bA s 0≤122
 rotate_left
 ·have d0:decide (97≤bA s 0∧bA s 0≤122)=false:=decide_eq_false h3
  have H3:=xN h3;clear h3
  go_enter Tryz.func230,Tryz.ntmps230
  go_wp2_with (first|(go_at_call 266;refine(xYz _ _).mono ?_;rintro e w' ⟨rfl,rfl⟩)|(go_at_call 267;refine(xZz _ _).mono ?_;rintro e w' ⟨rfl,rfl⟩))
  go_ret
  exact⟨yP (xH fun h=>by rcases h.each 0 zM with h|h<;>(simp only[vQz,vRz] at h;have:=H3.out;omega)).symm,rfl⟩
 have d0:decide (97≤bA s 0∧bA s 0≤122)=true:=decide_eq_true h3;have H3:=xN h3;clear h3
 go_enter Tryz.func230,Tryz.ntmps230
 go_wp2_with (first|(go_at_call 266;refine(xYz _ _).mono ?_;rintro e w' ⟨rfl,rfl⟩)|(go_at_call 267;refine(xZz _ _).mono ?_;rintro e w' ⟨rfl,rfl⟩))
 go_loop [3] (fun i=> ∃ k:Nat,k≤s.size∧i= .int .i64 k∧ ∀ i,i<k→vQz (bA s i)∨vRz (bA s i)) (fun i=>s.size - (intOf i).toNat)
 case atStart=>exact⟨0,Nat.zero_le _,rfl,fun i h=>absurd h zM⟩
 case round=>
  obtain⟨k,hk,rfl,hs⟩:=hrel;have HS:=xN hs;clear hs hg0 hb0 d0;by_cases hlt:k<s.size
  ·have hb:=bA_lt s k
   have hg:=bA_get hlt;generalize hy:bA s k=y at *;have HY:=xN hy;clear hy;by_cases a1:97≤y∧y≤122
   ·have d1:decide (97≤y∧y≤122)=true:=decide_eq_true a1
    have A1:=xN a1;clear a1;go_wp2_with (first|(go_at_call 266;refine(xYz _ _).mono ?_;rintro e w' ⟨rfl,rfl⟩)|(go_at_call 267;refine(xZz _ _).mono ?_;rintro e w' ⟨rfl,rfl⟩))
    go_round
    case rel=>exact⟨k+1,by omega,by go_num,fun i hi=>by
     by_cases e:i=k
     ·subst e;rw[HY.out];exact .inl A1.out
     ·exact HS.out i zM⟩
    case measure=>simp[intOf];omega
   ·have d1:decide (97≤y∧y≤122)=false:=decide_eq_false a1
    have A1:=xN a1;clear a1;by_cases a2:48≤y∧y≤57
    ·have d2:decide (48≤y∧y≤57)=true:=decide_eq_true a2
     have A2:=xN a2;clear a2;go_wp2_with (first|(go_at_call 266;refine(xYz _ _).mono ?_;rintro e w' ⟨rfl,rfl⟩)|(go_at_call 267;refine(xZz _ _).mono ?_;rintro e w' ⟨rfl,rfl⟩))
     go_round
     case rel=>exact⟨k+1,by omega,by go_num,fun i hi=>by
      by_cases e:i=k
      ·subst e;rw[HY.out];exact .inr A2.out
      ·exact HS.out i zM⟩
     case measure=>simp[intOf];omega
    ·have d2:decide (48≤y∧y≤57)=false:=decide_eq_false a2
     have A2:=xN a2;clear a2;go_wp2_with (first|(go_at_call 266;refine(xYz _ _).mono ?_;rintro e w' ⟨rfl,rfl⟩)|(go_at_call 267;refine(xZz _ _).mono ?_;rintro e w' ⟨rfl,rfl⟩))
     go_ret
     exact⟨yP (xH fun h=>by
      rcases h.each k hlt with h|h<;>rw[HY.out] at h<;>(simp only[vQz,vRz] at h;have:=A1.out;have:=A2.out;omega)).symm,rfl⟩
  ·go_wp2
   go_ret
   exact⟨yP (xI ⟨h1,h2,fun i hi=>by
    rcases HS.out i zM with h|h
    ·exact .inl h
    ·by_cases e:i=0
     ·subst e;exact .inl H3.out
     ·exact .inr ⟨h,e⟩⟩).symm,rfl⟩
end
section
open Go.Lib
theorem decDigits_small {u:Nat} (h:u<10):decDigits u= [UInt8.ofNat (48+u)]:=by rw[decDigits,dif_pos h]
theorem decDigits_big {u:Nat} (h: ¬ u<10):decDigits u=decDigits (u / 10)++ [UInt8.ofNat (48+u % 10)]:=by rw[decDigits,dif_neg h]
def preD (u:Nat):List UInt8:=if u=0 then [] else decDigits u
theorem preD_step {u:Nat} (h:u≠0):preD u=preD (u / 10)++ [UInt8.ofNat (48+u % 10)]:=by
 unfold preD;rw[if_neg h];by_cases h1:u<10
 ·rw[decDigits_small h1,if_pos zM]
  have:u % 10=u:=by omega
  rw[this];rfl
 ·rw[decDigits_big h1,if_neg zM]
theorem preD_len (k:Nat): ∀ u,u<10 ^ k→(preD u).length≤k:=by
 induction k with
 |zero=>
      intro u h;have:u=0:=by simpa using h
      subst this;simp[preD]
 |succ k ih=>
  intro u h;by_cases h0:u=0
  ·subst h0;simp[preD]
  ·rw[preD_step h0,List.length_append]
   have:=ih (u / 10) (by rw[Nat.pow_succ] at h;omega);simp;omega
end
section
open Go.RowKit
def mrkB (k:Nat):ByteArray:=mkS (109 :: preD k)
theorem str_of0 {w:World} {v:Value} {bs:List UInt8} (h:RdY w v bs):(convert 22 9 v).run Tryz.prog w= .ok (.string (mkS bs)) w:=
 run_str Tryz.underlying22 Tryz.underlying5 Tryz.underlying9 h
theorem byte_cell (n:Nat) (h:n<256) (w:World):RdY (w.alloc (.cells #[.int .u8 (n:Int)] 5)) (.slice (some ⟨w.heap.size,0,none⟩) 1 1) [UInt8.ofNat n]:=by
 have e1:((UInt8.ofNat n).toNat:Int)=(n:Int):=by rw[UInt8.toNat_ofNat_of_lt' (by exact h)]
 have:=World.ownsRow_lit (base:=w.heap.size) (e:=5) (size:=1) w #[.int .u8 (n:Int)] 1 zJ (by decide) rfl;refine OwY.rd (E:=5) (B:=w.heap.size) ?_;unfold OwY;simp only[List.length_cons,List.length_nil,List.map_cons,List.map_nil,e1];exact this
theorem c_markText (k:Nat) (w:World) (h0:0<k) (hk:k≤4611686018427387904):Calls Tryz.prog 208 #[.int .i64 (k:Int)] w fun e w'=>e= .returned (.string (mrkB k))∧Below w.heap.size w w':=by
 have hkk: ¬ (k:Int)≤0:=by omega
 go_enter Tryz.func208,Tryz.ntmps208
 go_wp2
 go_loopw [0,3] (fun kv o wr=> ∃ (m:Nat) (l:List UInt8),m≤k∧kv= .int .i64 (m:Int)∧o= .string (mkS l)∧preD k=preD m++l∧Below w.heap.size w wr) (fun kv _ _=>(intOf kv).toNat)
 case atStart=>exact⟨k,[],zJ,rfl,rfl,by simp,zR⟩
 case round=>
  obtain⟨m,l,hm,rfl,rfl,hp,hb⟩:=hrel;have hll:(mkS l).size≤19:=by have h1:=congrArg List.length hp;have h2:=preD_len 19 k zM;rw[List.length_append] at h1;rw[size_mkS];omega
  have HP:=xN hp;have HB:=xN hb;clear hp hb;by_cases hz:0<m
  ·have hmod:(m:Int) % 10=((m % 10:Nat):Int):=by omega
   have hdiv:(m:Int) / 10=((m / 10:Nat):Int):=by omega
   have hd:m % 10<10:=Nat.mod_lt _ zM;have HS:=xN (preD_step (u:=m) zM);generalize hdd:m % 10=d at *;have hq:m / 10<m:=by omega
   generalize hqq:m / 10=q at *;have hcv: ∀ W:World,(convert 22 9 (.slice (some ⟨W.heap.size,0,none⟩) 1 1)).run Tryz.prog (W.alloc (.cells #[.int .u8 (48+(d:Int))] 5))= .ok (.string (mkS [UInt8.ofNat (48+d)])) (W.alloc (.cells #[.int .u8 (48+(d:Int))] 5)):=fun W=>str_of0 (byte_cell (48+d) zM W)
   have happ:mkS [UInt8.ofNat (48+d)]++mkS l=mkS ([UInt8.ofNat (48+d)]++l):=mkS_append _ _;generalize hcc:UInt8.ofNat (48+d)=c at *;have h1s:(mkS [c]).size=1:=size_mkS _;have HA:=xN happ;clear happ hcc;clear hdd hqq;go_wp2
   go_roundw
   case rel=>exact⟨q,[c]++l,by omega,by go_num,by rw[HA.out],by rw[HP.out,HS.out];simp,HB.out.alloc HB.out.size _⟩
   case measure=>simp[intOf];omega
  ·have hl:preD k=l:=by have:=HP.out;rw[this,show m=0 by omega];simp[preD]
   have hz2: ¬ (0:Int)<(m:Int):=by omega
   have happ:mkS [109]++mkS l=mrkB k:=by rw[mkS_append,mrkB,hl];rfl
   have HA:=xN happ;clear happ;have h1s:(⟨#[109]⟩:ByteArray).size=1:=rfl;go_wp2;go_ret
   exact⟨ret_str (by rw[←HA.out];rfl),HB.out⟩
end
end Go.Proofs.YtoibekfhepnedaaGreat
