/- Contracts: what is valid, by the reference: tables, nodes, well formed patches. Contracts: which nested data are the same, by the program. -/
import Derived.Test.YtoibekfhepnedaaGreatQAjExactMix
import Derived.Deep.RegionHeld3
set_option linter.unusedVariables false
set_option linter.unusedSimpArgs false
set_option maxHeartbeats 2000000
set_option maxRecDepth 20000
namespace Go.Proofs.YtoibekfhepnedaaGreat
section
open Go.RowKit
theorem kndF_hasB {n:Int} (h:inB n 1 17=true):(uX n).hasB=decide (n=17):=by
 have hb:=xK.1 h;have:n=1∨n=2∨n=3∨n=4∨n=5∨n=6∨n=7∨n=8∨n=9∨n=10∨n=11∨n=12∨n=13∨n=14∨n=15∨n=16∨n=17:=by omega
 rcases this with rfl|rfl|rfl|rfl|rfl|rfl|rfl|rfl|rfl|rfl|rfl|rfl|rfl|rfl|rfl|rfl|rfl
 all_goals rfl
theorem c_l06Ok (x:xR) (b o:Nat) (n:Int) (w:World) (n0:0≤n) (n1:n≤1048576) (h:T.at w x.fs b o):Calls Tryz.prog 233 #[.pointer (some ⟨b,o,none⟩),.int .i64 n] w fun e w'=>e= .returned (.bool (tf (yPz x n)))∧Below w.heap.size w w':=by
 have HAT:=xN h;obtain⟨hlt0,cs,hr,hc⟩:=h;obtain⟨v3,rfl,h3⟩:=xR.yV hr;clear hr;obtain⟨va3,vc3,rfl,vl3,vm3,R3,HX3⟩:=oI h3;clear h3;have HL:=xN hlt0;have HCC:=xN hc;have HB0:=xN (Below.refl w.heap.size w);clear hlt0 hc;have p0:w.cell? ⟨b,o,none⟩=some (.int .i64 x.zG):=(HB0.out.cell HL.out).trans (HCC.out 0 _ rfl);have p1:w.cell? ⟨b,o+1,none⟩=some (.int .i64 x.fA):=(HB0.out.cell HL.out).trans (HCC.out 1 _ rfl);have p2:w.cell? ⟨b,o+2,none⟩=some (.int .i64 x.fB):=(HB0.out.cell HL.out).trans (HCC.out 2 _ rfl);have p3:w.cell? ⟨b,o+3,none⟩=some (.slice va3 x.zK.length vc3):=(HB0.out.cell HL.out).trans (HCC.out 3 _ rfl);have lb:b<w.heap.size:=zW HL.out HB0.out.size
 go_enter Tryz.func233,Tryz.ntmps233
 go_wp2;by_cases q1:inB x.zG 1 17=true
 rotate_left
 ·have q1':inB x.zG 1 17=false:=(by simpa using q1)
  have g0:=yN p0;have g1:=yN p3;refine rB ?_
  repeat(first|go_big_quiet_skip|(go_big_quiet_want;go_big_quiet_op;first|go_big_quiet_on|(apply Exists.intro;refine⟨fun _=>?_,?_⟩;(· (first|(go_at_call 268;exact Calls.yR ((zIy _ _).mono (fun e w' h=>by(first|rw[q1'] at h|skip);exact h)))));go_big_quiet_on)))
  refine wpQuiet_nil ?_;rintro w9 ⟨uu,rfl⟩;have hb9:=yO w uu;generalize bel w uu=w9 at *;have HB9:=xN (yQ HB0.out HB0.out.size hb9);clear g0 g1;go_wp2;go_ret
  exact⟨yP (xH fun h=>q1 h.kind).symm,HB9.out⟩
 have q1':=q1;by_cases q2:AOk x∧(x.zG=13→x.fA<n)
 rotate_left
 ·have a2:=xH q2;have Q2:=xN q2;clear q2
  have g0:=yN p0;have g1:=yN p3;refine rB ?_
  repeat(first|go_big_quiet_skip|(go_big_quiet_want;go_big_quiet_op;first|go_big_quiet_on|(apply Exists.intro;refine⟨fun _=>?_,?_⟩;(· (first|(go_at_call 268;exact Calls.yR ((zIy _ _).mono (fun e w' h=>by(first|rw[q1'] at h|skip);exact h)))|(go_at_call 269;exact Calls.yS ((c_l06A x _ _ _ _ q1' n0 n1 (T.at_below HAT.out (yO w _))).mono (fun e w' h=>by(first|rw[a2] at h|skip);exact h)))));go_big_quiet_on)))
  refine wpQuiet_nil ?_;rintro w9 ⟨uu,rfl⟩;have hb9:=yO w uu;generalize bel w uu=w9 at *;have HB9:=xN (yQ HB0.out HB0.out.size hb9);clear g0 g1;go_wp2;go_ret
  exact⟨yP (xH fun h=>Q2.out ⟨h.a,h.table⟩).symm,HB9.out⟩
 have a2:=xI q2;have Q2:=xN q2;clear q2;by_cases q3:(x.zK.length:Int)=(uX x.zG).inputs
 rotate_left
 ·have a3:((x.zK.length:Int) != (uX x.zG).inputs)=true:=yQz q3;have Q3:=xN q3;clear q3
  have g0:=yN p0;have g1:=yN p3;refine rB ?_
  repeat(first|go_big_quiet_skip|(go_big_quiet_want;go_big_quiet_op;first|go_big_quiet_on|(apply Exists.intro;refine⟨fun _=>?_,?_⟩;(· (first|(go_at_call 268;exact Calls.yR ((zIy _ _).mono (fun e w' h=>by(first|rw[q1'] at h|skip);exact h)))|(go_at_call 269;exact Calls.yS ((c_l06A x _ _ _ _ q1' n0 n1 (T.at_below HAT.out (yO w _))).mono (fun e w' h=>by(first|rw[a2] at h|skip);exact h)))|(go_at_call 217;exact Calls.yS (c_l06Arity _ q1' _))));go_big_quiet_on)))
  refine wpQuiet_nil ?_;rintro w9 ⟨uu,rfl⟩;have hb9:=yO w uu;generalize bel w uu=w9 at *;have HB9:=xN (yQ HB0.out HB0.out.size hb9);clear g0 g1;go_wp2;go_ret
  exact⟨yP (xH fun h=>Q3.out h.arity).symm,HB9.out⟩
 have a3:((x.zK.length:Int) != (uX x.zG).inputs)=false:=yRz q3;have Q3:=xN q3;clear q3;have g0:=yN p0;have g1:=yN p3;refine rB ?_
 repeat(first|go_big_quiet_skip|(go_big_quiet_want;go_big_quiet_op;first|go_big_quiet_on|(apply Exists.intro;refine⟨fun _=>?_,?_⟩;(· (first|(go_at_call 268;exact Calls.yR ((zIy _ _).mono (fun e w' h=>by(first|rw[q1'] at h|skip);exact h)))|(go_at_call 269;exact Calls.yS ((c_l06A x _ _ _ _ q1' n0 n1 (T.at_below HAT.out (yO w _))).mono (fun e w' h=>by(first|rw[a2] at h|skip);exact h)))|(go_at_call 217;exact Calls.yS (c_l06Arity _ q1' _))));go_big_quiet_on)))
 refine wpQuiet_nil ?_;rintro w9 ⟨uu,rfl⟩;have hb9:=yO w uu;generalize bel w uu=w9 at *;have HB9:=xN (yQ HB0.out HB0.out.size hb9);clear g0 g1;clear hb9 p0 p1 p2 p3 lb a2 a3;have p0:w9.cell? ⟨b,o,none⟩=some (.int .i64 x.zG):=(HB9.out.cell HL.out).trans (HCC.out 0 _ rfl);have p1:w9.cell? ⟨b,o+1,none⟩=some (.int .i64 x.fA):=(HB9.out.cell HL.out).trans (HCC.out 1 _ rfl);have p2:w9.cell? ⟨b,o+2,none⟩=some (.int .i64 x.fB):=(HB9.out.cell HL.out).trans (HCC.out 2 _ rfl);have p3:w9.cell? ⟨b,o+3,none⟩=some (.slice va3 x.zK.length vc3):=(HB9.out.cell HL.out).trans (HCC.out 3 _ rfl);have lb:b<w9.heap.size:=zW HL.out HB9.out.size;go_wp2;clear p0 p1 p2 p3 lb
 go_loopw [5] (fun i wr=> ∃ k:Nat,k≤x.zK.length∧i= .int .i64 k∧vP x.zK (fun _ f=>inB f 0 23=true) k∧Below w9.heap.size w9 wr) (fun i _=>x.zK.length - (intOf i).toNat)
 case atStart=>exact⟨0,Nat.zero_le _,rfl,vP.zero,zR⟩
 case round=>
  obtain⟨k,hk,rfl,hs,hbw⟩:=hrel;have HS:=xN hs;have HW:=xN hbw;have HB:=xN (yQ HB9.out HB9.out.size hbw);clear hs hbw;have p0:wr.cell? ⟨b,o,none⟩=some (.int .i64 x.zG):=(HB.out.cell HL.out).trans (HCC.out 0 _ rfl);have p1:wr.cell? ⟨b,o+1,none⟩=some (.int .i64 x.fA):=(HB.out.cell HL.out).trans (HCC.out 1 _ rfl);have p2:wr.cell? ⟨b,o+2,none⟩=some (.int .i64 x.fB):=(HB.out.cell HL.out).trans (HCC.out 2 _ rfl);have p3:wr.cell? ⟨b,o+3,none⟩=some (.slice va3 x.zK.length vc3):=(HB.out.cell HL.out).trans (HCC.out 3 _ rfl);have lb:b<wr.heap.size:=zW HL.out HB.out.size;by_cases hlt:k<x.zK.length
  rotate_left
  ·have hall:=xN (HS.out.all zM);clear HS
   by_cases e7:x.zG=17
   ·have b7:(x.zG == 17)=true:=xA e7;have E7:=xN e7;clear e7
    go_wp2_with (go_at_call 87;refine(wI _ _ _ _).mono ?_;rintro e w' ⟨rfl,rfl⟩)
    go_ret
    exact⟨yP (by
     have hB:=kndF_hasB q1';by_cases h:inB x.fB 1 16=true
     ·rw[xI ⟨q1',Q2.out.1,by rw[hB];simp[E7.out];exact h,hall.out,Q3.out,Q2.out.2⟩];exact h
     ·rw[xH (fun hh=>h (by have h1:=hh.b;rw[hB] at h1;simp[E7.out] at h1;exact h1))];simpa using h),HB.out⟩
   ·have b7:(x.zG == 17)=false:=yZ e7;have E7:=xN e7;clear e7
    go_wp2_with (go_at_call 87;refine(wI _ _ _ _).mono ?_;rintro e w' ⟨rfl,rfl⟩)
    go_ret
    exact⟨yP (by
     have hB:=kndF_hasB q1';by_cases h:x.fB=0
     ·rw[xI ⟨q1',Q2.out.1,by rw[hB];simp[E7.out];exact h,hall.out,Q3.out,Q2.out.2⟩];exact xA h
     ·rw[xH (fun hh=>h (by have h1:=hh.b;rw[hB] at h1;simp[E7.out] at h1;exact h1))];exact yZ h),HB.out⟩
  have hgk:=gE hlt;obtain⟨b1,off,hA,hb1,hcell⟩:=HX3.out k x.zK[k] hgk;subst hA;generalize x.zK[k]=y at *;have HG:=xN hgk;clear hgk;have cy:=(HB.out.cell hb1).trans hcell;have hq1:b1<wr.heap.size:=zW hb1 HB.out.size;by_cases s1:inB y 0 23=true
  rotate_left
  ·have s1':inB y 0 23=false:=(by simpa using s1)
   go_wp2_with (go_at_call 87;refine(wI _ _ _ _).mono ?_;rintro e w' ⟨rfl,rfl⟩)
   go_ret
   exact⟨yP (xH fun h=>s1 (h.from_ k y HG.out)).symm,HB.out⟩
  go_wp2_with (go_at_call 87;refine(wI _ _ _ _).mono ?_;rintro e w' ⟨rfl,rfl⟩)
  go_roundw
  case rel=>exact⟨k+1,by omega,by go_num,HS.out.step HG.out s1,HW.out⟩
  case measure=>simp[intOf];omega
theorem c_l06Tables (v:Value) (xs:List (List Int)) (w:World) (hr:T.rd w (T.sl 26 1 (xs.map (T.ints 2))) [v]):Calls Tryz.prog 232 #[v] w fun e w'=>e= .returned (.bool (tf (wMz xs)))∧Below w.heap.size w w':=by
 obtain⟨A,cap,rfl,hl,hc,hx⟩:=T.yU hr;have HX:=xN hx;clear hx hr
 go_enter Tryz.func232,Tryz.ntmps232
 go_wp2
 go_loopw [3] (fun i wr=> ∃ k:Nat,k≤xs.length∧i= .int .i64 k∧vP xs (fun _ t=>(t.length=2∨t.length=4∨t.length=8∨t.length=16)∧smpB t=true) k∧Below w.heap.size w wr) (fun i _=>xs.length - (intOf i).toNat)
 case atStart=>exact⟨0,Nat.zero_le _,rfl,vP.zero,zR⟩
 case round=>
  obtain⟨k,hk,rfl,hs,hbw⟩:=hrel;have HS:=xN hs;have HB:=xN hbw;clear hs hbw;by_cases hlt:k<xs.length
  rotate_left
  ·have hall:=xN (HS.out.all zM);clear HS
   by_cases h4:xs.length≤4
   ·go_wp2
    go_ret
    exact⟨yP (by rw[xI ⟨hall.out,h4⟩];simp;omega),HB.out⟩
   ·go_wp2
    go_ret
    exact⟨yP (by rw[xH fun h=>h4 h.few];simp;omega),HB.out⟩
  have hgk:=gE hlt;obtain⟨b,off,cs,rfl,hb,hcs,hcell⟩:=HX.out k xs[k] hgk;generalize xs[k]=l at *;have HG:=xN hgk;clear hgk;obtain⟨v3,rfl⟩:=T.rd_one hcs;have d0:=(HB.out.cell hb).trans (hcell 0 v3 rfl);rw[Nat.mul_one,Nat.add_zero] at d0;have R:=xN (show RdI wr v3 l from Rd.below (T.xB.1 hcs) HB.out);clear hcs hcell;obtain⟨A3,c3,rfl,l3,m3,x3⟩:=R.out.open_;clear x3;have hq1:b<wr.heap.size:=zW hb HB.out.size;have n1:((k:Int)<(xs.length:Int)):=by omega
  have HR:=xN (rdI_bk (xs:= [2,4,8,16]) (Bk.born wr 2 #[.int .i64 2,.int .i64 4,.int .i64 8,.int .i64 16]) rfl (by decide));have HW:=xN (show Below wr.heap.size wr (wr.alloc (.cells #[.int .i64 2,.int .i64 4,.int .i64 8,.int .i64 16] 2)) from zR.alloc zJ _);have HB2:=xN (yQ HB.out HB.out.size HW.out);by_cases q1:(l.length:Int) ∈ ([2,4,8,16]:List Int)
  rotate_left
  ·have a1:decide ((l.length:Int) ∈ ([2,4,8,16]:List Int))=false:=decide_eq_false q1
   have Q1:=xN q1;clear q1;go_wp2_with (go_at_call 58;refine(zRz _ [2,4,8,16] _ _ HR.out).mono ?_;rintro e w' ⟨rfl,rfl⟩;rw[a1])
   go_ret
   exact⟨yP (xH fun h=>Q1.out (by have:=(h.each k l HG.out).1;simp;omega)).symm,HB2.out⟩
  have a1:decide ((l.length:Int) ∈ ([2,4,8,16]:List Int))=true:=decide_eq_true q1;have hn:l.length=2∨l.length=4∨l.length=8∨l.length=16:=by simp at q1;omega
  have HN:=xN hn;clear q1 hn;have R2:=xN (RdI.below R.out HW.out);by_cases q2:smpB l=true
  ·have a2:wFz l=true:=by unfold wFz;rw[q2];simp;have:=HN.out;omega
   go_wp2_with (first|(go_at_call 58;refine(zRz _ [2,4,8,16] _ _ HR.out).mono ?_;rintro e w' ⟨rfl,rfl⟩;rw[a1])|(go_at_call 123;refine(wHz _ l _ R2.out).mono ?_;rintro e w' ⟨rfl,rfl⟩;rw[a2]))
   go_roundw
   case rel=>exact⟨k+1,by omega,by go_num,HS.out.step HG.out ⟨HN.out,q2⟩,HB2.out⟩
   case measure=>simp[intOf];omega
  ·have a2:wFz l=false:=by unfold wFz;simp[q2]
   go_wp2_with (first|(go_at_call 58;refine(zRz _ [2,4,8,16] _ _ HR.out).mono ?_;rintro e w' ⟨rfl,rfl⟩;rw[a1])|(go_at_call 123;refine(wHz _ l _ R2.out).mono ?_;rintro e w' ⟨rfl,rfl⟩;rw[a2]))
   go_ret
   exact⟨yP (xH fun h=>q2 (h.each k l HG.out).2).symm,HB2.out⟩
theorem c_l07Formed (x:xO) (b o:Nat) (w:World) (ht:x.zV.length≤1048576) (h:T.at w x.fs b o):Calls Tryz.prog 180 #[.pointer (some ⟨b,o,none⟩)] w fun e w'=>e= .returned (.bool (tf (xUz x)))∧Below w.heap.size w w':=by
 have HAT:=xN h;obtain⟨hlt0,cs,hr,hc⟩:=h;obtain⟨v1,v2,v3,rfl,h1,h2,h3⟩:=xO.yV hr;clear hr;obtain⟨va1,vc1,rfl,vl1,vm1,R1,HX1⟩:=oG h1;clear h1;obtain⟨va2,vc2,rfl,vl2,vm2,R2,HX2⟩:=oG h2;clear h2;obtain⟨va3,vc3,rfl,vl3,vm3,R3,HX3⟩:=oI h3;clear h3;have HL:=xN hlt0;have HCC:=xN hc;have HB0:=xN (Below.refl w.heap.size w);clear hlt0 hc;have p0:w.cell? ⟨b,o,none⟩=some (.int .i64 x.zS):=(HB0.out.cell HL.out).trans (HCC.out 0 _ rfl);have p1:w.cell? ⟨b,o+1,none⟩=some (.slice va1 x.zV.length vc1):=(HB0.out.cell HL.out).trans (HCC.out 1 _ rfl);have p2:w.cell? ⟨b,o+2,none⟩=some (.slice va2 x.zC.length vc2):=(HB0.out.cell HL.out).trans (HCC.out 2 _ rfl);have p3:w.cell? ⟨b,o+3,none⟩=some (.slice va3 x.zT.length vc3):=(HB0.out.cell HL.out).trans (HCC.out 3 _ rfl);have lb:b<w.heap.size:=zW HL.out HB0.out.size
 go_enter Tryz.func180,Tryz.ntmps180
 by_cases q1:inB x.zS 0 4=true
 rotate_left
 ·have q1':inB x.zS 0 4=false:=(by simpa using q1)
  go_wp2_with (go_at_call 87;refine(wI _ _ _ _).mono ?_;rintro e w' ⟨rfl,rfl⟩)
  go_ret
  exact⟨yP (xH fun h=>q1 h.inputs).symm,HB0.out⟩
 go_wp2_with (go_at_call 87;refine(wI _ _ _ _).mono ?_;rintro e w' ⟨rfl,rfl⟩)
 refine(c_l06Tables _ x.zV _ (T.yM R1.out HB0.out)).mono ?_;rintro e w1 ⟨rfl,hb1⟩;have HB1:=xN (yQ HB0.out HB0.out.size hb1);clear hb1 p0 p1 p2 p3 lb;have p0:w1.cell? ⟨b,o,none⟩=some (.int .i64 x.zS):=(HB1.out.cell HL.out).trans (HCC.out 0 _ rfl);have p1:w1.cell? ⟨b,o+1,none⟩=some (.slice va1 x.zV.length vc1):=(HB1.out.cell HL.out).trans (HCC.out 1 _ rfl);have p2:w1.cell? ⟨b,o+2,none⟩=some (.slice va2 x.zC.length vc2):=(HB1.out.cell HL.out).trans (HCC.out 2 _ rfl);have p3:w1.cell? ⟨b,o+3,none⟩=some (.slice va3 x.zT.length vc3):=(HB1.out.cell HL.out).trans (HCC.out 3 _ rfl);have lb:b<w1.heap.size:=zW HL.out HB1.out.size;by_cases q2:wMz x.zV
 rotate_left
 ·rw[xH q2];have Q2:=xN q2;clear q2
  go_wp2;go_ret
  exact⟨yP (xH fun h=>Q2.out h.tables).symm,HB1.out⟩
 rw[xI q2];have Q2:=xN q2;clear q2;by_cases q3:x.zC.length≤24
 rotate_left
 ·have Q3:=xN q3
  go_wp2;go_ret
  exact⟨yP (xH fun h=>q3 h.few).symm,HB1.out⟩
 by_cases q4:x.zT.length≤4
 rotate_left
 ·have Q4:=xN q4
  go_wp2;go_ret
  exact⟨yP (xH fun h=>q4 h.outs).symm,HB1.out⟩
 have Q3:=xN q3;have Q4:=xN q4;go_wp2;clear p0 p1 p2 p3 lb
 go_loopw [4] (fun i wr=> ∃ k:Nat,k≤x.zC.length∧i= .int .i64 k∧vP x.zC (fun _ x_1=>yPz x_1 (x.zV.length:Int)∧Idx x_1.zK (x.zC.length:Int)∧(x_1.zG=1→x_1.fA<x.zS)) k∧Below w1.heap.size w1 wr) (fun i _=>x.zC.length - (intOf i).toNat)
 case atStart=>exact⟨0,Nat.zero_le _,rfl,vP.zero,zR⟩
 case round=>
  obtain⟨k,hk,rfl,hs,hbw⟩:=hrel;have HS:=xN hs;have HW:=xN hbw;have HB:=xN (yQ HB1.out HB1.out.size hbw);clear hs hbw;have p0:wr.cell? ⟨b,o,none⟩=some (.int .i64 x.zS):=(HB.out.cell HL.out).trans (HCC.out 0 _ rfl);have p1:wr.cell? ⟨b,o+1,none⟩=some (.slice va1 x.zV.length vc1):=(HB.out.cell HL.out).trans (HCC.out 1 _ rfl);have p2:wr.cell? ⟨b,o+2,none⟩=some (.slice va2 x.zC.length vc2):=(HB.out.cell HL.out).trans (HCC.out 2 _ rfl);have p3:wr.cell? ⟨b,o+3,none⟩=some (.slice va3 x.zT.length vc3):=(HB.out.cell HL.out).trans (HCC.out 3 _ rfl);have lb:b<wr.heap.size:=zW HL.out HB.out.size;by_cases hlt:k<x.zC.length
  rotate_left
  ·have hall:=xN (HS.out.all zM);clear HS
   generalize wr=w2 at *;go_wp2;clear p0 p1 p2 p3 lb;have HB2:=HB;clear HB
   go_loopw [7] (fun i wr=> ∃ k:Nat,k≤x.zT.length∧i= .int .i64 k∧vP x.zT (fun _ f=>0≤f∧f≤(x.zC.length:Int) - 1) k∧Below w2.heap.size w2 wr) (fun i _=>x.zT.length - (intOf i).toNat)
   case atStart=>exact⟨0,Nat.zero_le _,rfl,vP.zero,zR⟩
   case round=>
    obtain⟨k,hk,rfl,hs,hbw⟩:=hrel;have HS:=xN hs;have HW:=xN hbw;have HB:=xN (yQ HB2.out HB2.out.size hbw);clear hs hbw;have p0:wr.cell? ⟨b,o,none⟩=some (.int .i64 x.zS):=(HB.out.cell HL.out).trans (HCC.out 0 _ rfl);have p1:wr.cell? ⟨b,o+1,none⟩=some (.slice va1 x.zV.length vc1):=(HB.out.cell HL.out).trans (HCC.out 1 _ rfl);have p2:wr.cell? ⟨b,o+2,none⟩=some (.slice va2 x.zC.length vc2):=(HB.out.cell HL.out).trans (HCC.out 2 _ rfl);have p3:wr.cell? ⟨b,o+3,none⟩=some (.slice va3 x.zT.length vc3):=(HB.out.cell HL.out).trans (HCC.out 3 _ rfl);have lb:b<wr.heap.size:=zW HL.out HB.out.size;by_cases hlt:k<x.zT.length
    rotate_left
    ·have hall2:=xN (HS.out.all zM);clear HS
     go_wp2;go_ret
     exact⟨yP (xI ⟨q1,Q2.out,Q3.out,Q4.out,hall2.out,hall.out⟩).symm,HB.out⟩
    have hgk:=gE hlt;obtain⟨b1,off,hA,hb1,hcell⟩:=HX3.out k x.zT[k] hgk;subst hA;generalize x.zT[k]=y at *;have HG:=xN hgk;clear hgk;have cy:=(HB.out.cell hb1).trans hcell;have hq1:b1<wr.heap.size:=zW hb1 HB.out.size;by_cases s1:inB y 0 ((x.zC.length:Int) - 1)=true
    rotate_left
    ·have s1':inB y 0 ((x.zC.length:Int) - 1)=false:=(by simpa using s1)
     go_wp2_with (go_at_call 87;refine(wI _ _ _ _).mono ?_;rintro e w' ⟨rfl,rfl⟩)
     go_ret
     exact⟨yP (xH fun h=>s1 (xK.2 (h.outputs k y HG.out))).symm,HB.out⟩
    go_wp2_with (go_at_call 87;refine(wI _ _ _ _).mono ?_;rintro e w' ⟨rfl,rfl⟩)
    go_roundw
    case rel=>exact⟨k+1,by omega,by go_num,HS.out.step HG.out (xK.1 s1),HW.out⟩
    case measure=>simp[intOf];omega
  have hgk:=gE hlt;obtain⟨b1,off,csy,hA,hb1,hcs,hcell⟩:=HX2.out k x.zC[k] hgk;subst hA;generalize x.zC[k]=y at *;have HG:=xN hgk;clear hgk;have HAy:=xN (T.at_elem (o:=off+k * 4) hb1 (show T.rds w y.fs csy by simpa only[xR.t,T.rd] using hcs) hcell zM);clear hcs hcell;have n1:((k:Int)<(x.zC.length:Int)):=by omega
  obtain⟨lty,csy',hry,hcy⟩:=HAy.out;obtain⟨u3,rfl,hu3⟩:=xR.yV hry;have Ru3:=xN (T.xB.1 hu3);obtain⟨ua3,uc3,rfl,ul3,um3,ux3⟩:=Ru3.out.open_;have HXu3:=xN ux3;clear ux3 hu3;have HCy:=xN hcy;clear hry hcy;have cy0:wr.cell? ⟨b1,off+k * 4,none⟩=some (.int .i64 y.zG):=(HB.out.cell lty).trans (HCy.out 0 _ rfl);have cy1:wr.cell? ⟨b1,off+k * 4+1,none⟩=some (.int .i64 y.fA):=(HB.out.cell lty).trans (HCy.out 1 _ rfl);have cy2:wr.cell? ⟨b1,off+k * 4+2,none⟩=some (.int .i64 y.fB):=(HB.out.cell lty).trans (HCy.out 2 _ rfl);have cy3:wr.cell? ⟨b1,off+k * 4+3,none⟩=some (.slice ua3 y.zK.length uc3):=(HB.out.cell lty).trans (HCy.out 3 _ rfl);have hq1:b1<wr.heap.size:=zW hb1 HB.out.size;by_cases q5:yPz y (x.zV.length:Int)
  rotate_left
  ·have a5:=xH q5;have Q5:=xN q5;clear q5
   go_wp2;have g0:=yN p0;have g1:=yN p1;have g2:=yN cy0;have g3:=yN cy1;refine rB ?_
   repeat(first|go_big_quiet_skip|(go_big_quiet_want;go_big_quiet_op;first|go_big_quiet_on|(apply Exists.intro;refine⟨fun _=>?_,?_⟩;(· (go_at_call 233;exact Calls.yS ((c_l06Ok y _ _ _ _ zM zM (T.at_below HAy.out (yQ HB.out HB.out.size (yO wr _)))).mono (fun e w' h=>by(first|rw[a5] at h|skip);exact h))));go_big_quiet_on)))
   refine wpQuiet_nil ?_;rintro w9 ⟨uu,rfl⟩;have hb9:=yO wr uu;generalize bel wr uu=w9 at *;have HB9:=xN (yQ HB.out HB.out.size hb9);clear g0 g1 g2 g3;go_wp2;go_ret
   exact⟨yP (xH fun h=>Q5.out (h.nodes k y HG.out).1).symm,HB9.out⟩
  have a5:=xI q5;have Q5:=xN q5;clear q5;by_cases q6:y.zG=1
  rotate_left
  ·have a6:(y.zG == 1)=false:=yZ q6;have Q6:=xN q6;clear q6
   go_wp2;have g0:=yN p0;have g1:=yN p1;have g2:=yN cy0;have g3:=yN cy1;refine rB ?_
   repeat(first|go_big_quiet_skip|(go_big_quiet_want;go_big_quiet_op;first|go_big_quiet_on|(apply Exists.intro;refine⟨fun _=>?_,?_⟩;(· (go_at_call 233;exact Calls.yS ((c_l06Ok y _ _ _ _ zM zM (T.at_below HAy.out (yQ HB.out HB.out.size (yO wr _)))).mono (fun e w' h=>by(first|rw[a5] at h|skip);exact h))));go_big_quiet_on)))
   refine wpQuiet_nil ?_;rintro w9 ⟨uu,rfl⟩;have hb9:=yO wr uu;generalize bel wr uu=w9 at *;have HB9:=xN (yQ HB.out HB.out.size hb9);clear g0 g1 g2 g3;have HW9:=xN (yQ HW.out HW.out.size hb9);clear hb9;clear p0 p1 p2 p3 lb cy0 cy1 cy2 cy3 a5;have p0:w9.cell? ⟨b,o,none⟩=some (.int .i64 x.zS):=(HB9.out.cell HL.out).trans (HCC.out 0 _ rfl);have p1:w9.cell? ⟨b,o+1,none⟩=some (.slice va1 x.zV.length vc1):=(HB9.out.cell HL.out).trans (HCC.out 1 _ rfl);have p2:w9.cell? ⟨b,o+2,none⟩=some (.slice (some ⟨b1,off,none⟩) x.zC.length vc2):=(HB9.out.cell HL.out).trans (HCC.out 2 _ rfl);have p3:w9.cell? ⟨b,o+3,none⟩=some (.slice va3 x.zT.length vc3):=(HB9.out.cell HL.out).trans (HCC.out 3 _ rfl);have lb:b<w9.heap.size:=zW HL.out HB9.out.size;have cy0:w9.cell? ⟨b1,off+k * 4,none⟩=some (.int .i64 y.zG):=(HB9.out.cell lty).trans (HCy.out 0 _ rfl);have cy1:w9.cell? ⟨b1,off+k * 4+1,none⟩=some (.int .i64 y.fA):=(HB9.out.cell lty).trans (HCy.out 1 _ rfl);have cy2:w9.cell? ⟨b1,off+k * 4+2,none⟩=some (.int .i64 y.fB):=(HB9.out.cell lty).trans (HCy.out 2 _ rfl);have cy3:w9.cell? ⟨b1,off+k * 4+3,none⟩=some (.slice ua3 y.zK.length uc3):=(HB9.out.cell lty).trans (HCy.out 3 _ rfl);go_wp2;clear p0 p1 p2 p3 lb cy0 cy1 cy2 cy3
   go_loopw [6] (fun i ws=> ∃ m:Nat,m≤y.zK.length∧i= .int .i64 m∧vP y.zK (fun _ f=>f≤(x.zC.length:Int) - 1) m∧Below w9.heap.size w9 ws) (fun i _=>y.zK.length - (intOf i).toNat)
   case atStart=>exact⟨0,Nat.zero_le _,rfl,vP.zero,zR⟩
   case round=>
    obtain⟨m,hm,rfl,hs2,hbs⟩:=hrel;have HS2:=xN hs2;have HB4:=xN (yQ HB9.out HB9.out.size hbs);have HW4:=xN (yQ HW9.out HW9.out.size hbs);have HS4:=xN hbs;clear hs2 hbs;have cy0:wr.cell? ⟨b1,off+k * 4,none⟩=some (.int .i64 y.zG):=(HB4.out.cell lty).trans (HCy.out 0 _ rfl);have cy1:wr.cell? ⟨b1,off+k * 4+1,none⟩=some (.int .i64 y.fA):=(HB4.out.cell lty).trans (HCy.out 1 _ rfl);have cy2:wr.cell? ⟨b1,off+k * 4+2,none⟩=some (.int .i64 y.fB):=(HB4.out.cell lty).trans (HCy.out 2 _ rfl);have cy3:wr.cell? ⟨b1,off+k * 4+3,none⟩=some (.slice ua3 y.zK.length uc3):=(HB4.out.cell lty).trans (HCy.out 3 _ rfl);have p0:wr.cell? ⟨b,o,none⟩=some (.int .i64 x.zS):=(HB4.out.cell HL.out).trans (HCC.out 0 _ rfl);have p1:wr.cell? ⟨b,o+1,none⟩=some (.slice va1 x.zV.length vc1):=(HB4.out.cell HL.out).trans (HCC.out 1 _ rfl);have p2:wr.cell? ⟨b,o+2,none⟩=some (.slice (some ⟨b1,off,none⟩) x.zC.length vc2):=(HB4.out.cell HL.out).trans (HCC.out 2 _ rfl);have p3:wr.cell? ⟨b,o+3,none⟩=some (.slice va3 x.zT.length vc3):=(HB4.out.cell HL.out).trans (HCC.out 3 _ rfl);have lb:b<wr.heap.size:=zW HL.out HB4.out.size;by_cases hltm:m<y.zK.length
    rotate_left
    ·have hall:=xN (HS2.out.all zM);clear HS2
     go_wp2
     go_roundw
     case rel=>exact⟨k+1,by omega,by go_num,HS.out.step HG.out ⟨Q5.out,fun i f hf=>⟨(xK.1 (Q5.out.from_ i f hf)).1,hall.out i f hf⟩,fun h=>absurd h Q6.out⟩,HW4.out⟩
     case measure=>simp[intOf];omega
    have hgm:=gE hltm;obtain⟨b3,off3,hA,hb3,hcf⟩:=HXu3.out m y.zK[m] hgm;subst hA;generalize y.zK[m]=f at *;have HF:=xN hgm;clear hgm;have cf:=(HB4.out.cell hb3).trans hcf;have hq3:b3<wr.heap.size:=zW hb3 HB4.out.size;by_cases s1:(x.zC.length:Int)≤f
    ·have s1':decide ((x.zC.length:Int)≤f)=true:=decide_eq_true s1;have S1:=xN s1
     go_wp2;go_ret
     exact⟨yP (xH fun h=>by have:=(h.nodes k y HG.out).2.1 m f HF.out;have:=S1.out;omega).symm,HB4.out⟩
    have s1':decide ((x.zC.length:Int)≤f)=false:=decide_eq_false s1;go_wp2
    go_roundw
    case rel=>exact⟨m+1,by omega,by go_num,HS2.out.step HF.out zM,HS4.out⟩
    case measure=>simp[intOf];omega
  have a6:(y.zG == 1)=true:=xA q6;have Q6:=xN q6;clear q6;by_cases q7:x.zS≤y.fA
  ·have a7:decide (x.zS≤y.fA)=true:=decide_eq_true q7;have Q7:=xN q7
   go_wp2;have g0:=yN p0;have g1:=yN p1;have g2:=yN cy0;have g3:=yN cy1;refine rB ?_
   repeat(first|go_big_quiet_skip|(go_big_quiet_want;go_big_quiet_op;first|go_big_quiet_on|(apply Exists.intro;refine⟨fun _=>?_,?_⟩;(· (go_at_call 233;exact Calls.yS ((c_l06Ok y _ _ _ _ zM zM (T.at_below HAy.out (yQ HB.out HB.out.size (yO wr _)))).mono (fun e w' h=>by(first|rw[a5] at h|skip);exact h))));go_big_quiet_on)))
   refine wpQuiet_nil ?_;rintro w9 ⟨uu,rfl⟩;have hb9:=yO wr uu;generalize bel wr uu=w9 at *;have HB9:=xN (yQ HB.out HB.out.size hb9);clear g0 g1 g2 g3;go_wp2;go_ret
   exact⟨yP (xH fun h=>by have:=(h.nodes k y HG.out).2.2 Q6.out;have:=Q7.out;omega).symm,HB9.out⟩
  have a7:decide (x.zS≤y.fA)=false:=decide_eq_false q7;have Q7:=xN q7;go_wp2;have g0:=yN p0;have g1:=yN p1;have g2:=yN cy0;have g3:=yN cy1;refine rB ?_
  repeat(first|go_big_quiet_skip|(go_big_quiet_want;go_big_quiet_op;first|go_big_quiet_on|(apply Exists.intro;refine⟨fun _=>?_,?_⟩;(· (go_at_call 233;exact Calls.yS ((c_l06Ok y _ _ _ _ zM zM (T.at_below HAy.out (yQ HB.out HB.out.size (yO wr _)))).mono (fun e w' h=>by(first|rw[a5] at h|skip);exact h))));go_big_quiet_on)))
  refine wpQuiet_nil ?_;rintro w9 ⟨uu,rfl⟩;have hb9:=yO wr uu;generalize bel wr uu=w9 at *;have HB9:=xN (yQ HB.out HB.out.size hb9);clear g0 g1 g2 g3;have HW9:=xN (yQ HW.out HW.out.size hb9);clear hb9;clear p0 p1 p2 p3 lb cy0 cy1 cy2 cy3 a5;have p0:w9.cell? ⟨b,o,none⟩=some (.int .i64 x.zS):=(HB9.out.cell HL.out).trans (HCC.out 0 _ rfl);have p1:w9.cell? ⟨b,o+1,none⟩=some (.slice va1 x.zV.length vc1):=(HB9.out.cell HL.out).trans (HCC.out 1 _ rfl);have p2:w9.cell? ⟨b,o+2,none⟩=some (.slice (some ⟨b1,off,none⟩) x.zC.length vc2):=(HB9.out.cell HL.out).trans (HCC.out 2 _ rfl);have p3:w9.cell? ⟨b,o+3,none⟩=some (.slice va3 x.zT.length vc3):=(HB9.out.cell HL.out).trans (HCC.out 3 _ rfl);have lb:b<w9.heap.size:=zW HL.out HB9.out.size;have cy0:w9.cell? ⟨b1,off+k * 4,none⟩=some (.int .i64 y.zG):=(HB9.out.cell lty).trans (HCy.out 0 _ rfl);have cy1:w9.cell? ⟨b1,off+k * 4+1,none⟩=some (.int .i64 y.fA):=(HB9.out.cell lty).trans (HCy.out 1 _ rfl);have cy2:w9.cell? ⟨b1,off+k * 4+2,none⟩=some (.int .i64 y.fB):=(HB9.out.cell lty).trans (HCy.out 2 _ rfl);have cy3:w9.cell? ⟨b1,off+k * 4+3,none⟩=some (.slice ua3 y.zK.length uc3):=(HB9.out.cell lty).trans (HCy.out 3 _ rfl);go_wp2;clear p0 p1 p2 p3 lb cy0 cy1 cy2 cy3
  go_loopw [6] (fun i ws=> ∃ m:Nat,m≤y.zK.length∧i= .int .i64 m∧vP y.zK (fun _ f=>f≤(x.zC.length:Int) - 1) m∧Below w9.heap.size w9 ws) (fun i _=>y.zK.length - (intOf i).toNat)
  case atStart=>exact⟨0,Nat.zero_le _,rfl,vP.zero,zR⟩
  case round=>
   obtain⟨m,hm,rfl,hs2,hbs⟩:=hrel;have HS2:=xN hs2;have HB4:=xN (yQ HB9.out HB9.out.size hbs);have HW4:=xN (yQ HW9.out HW9.out.size hbs);have HS4:=xN hbs;clear hs2 hbs;have cy0:wr.cell? ⟨b1,off+k * 4,none⟩=some (.int .i64 y.zG):=(HB4.out.cell lty).trans (HCy.out 0 _ rfl);have cy1:wr.cell? ⟨b1,off+k * 4+1,none⟩=some (.int .i64 y.fA):=(HB4.out.cell lty).trans (HCy.out 1 _ rfl);have cy2:wr.cell? ⟨b1,off+k * 4+2,none⟩=some (.int .i64 y.fB):=(HB4.out.cell lty).trans (HCy.out 2 _ rfl);have cy3:wr.cell? ⟨b1,off+k * 4+3,none⟩=some (.slice ua3 y.zK.length uc3):=(HB4.out.cell lty).trans (HCy.out 3 _ rfl);have p0:wr.cell? ⟨b,o,none⟩=some (.int .i64 x.zS):=(HB4.out.cell HL.out).trans (HCC.out 0 _ rfl);have p1:wr.cell? ⟨b,o+1,none⟩=some (.slice va1 x.zV.length vc1):=(HB4.out.cell HL.out).trans (HCC.out 1 _ rfl);have p2:wr.cell? ⟨b,o+2,none⟩=some (.slice (some ⟨b1,off,none⟩) x.zC.length vc2):=(HB4.out.cell HL.out).trans (HCC.out 2 _ rfl);have p3:wr.cell? ⟨b,o+3,none⟩=some (.slice va3 x.zT.length vc3):=(HB4.out.cell HL.out).trans (HCC.out 3 _ rfl);have lb:b<wr.heap.size:=zW HL.out HB4.out.size;by_cases hltm:m<y.zK.length
   rotate_left
   ·have hall:=xN (HS2.out.all zM);clear HS2
    go_wp2
    go_roundw
    case rel=>exact⟨k+1,by omega,by go_num,HS.out.step HG.out ⟨Q5.out,fun i f hf=>⟨(xK.1 (Q5.out.from_ i f hf)).1,hall.out i f hf⟩,fun _=>by have:=Q7.out;omega⟩,HW4.out⟩
    case measure=>simp[intOf];omega
   have hgm:=gE hltm;obtain⟨b3,off3,hA,hb3,hcf⟩:=HXu3.out m y.zK[m] hgm;subst hA;generalize y.zK[m]=f at *;have HF:=xN hgm;clear hgm;have cf:=(HB4.out.cell hb3).trans hcf;have hq3:b3<wr.heap.size:=zW hb3 HB4.out.size;by_cases s1:(x.zC.length:Int)≤f
   ·have s1':decide ((x.zC.length:Int)≤f)=true:=decide_eq_true s1;have S1:=xN s1
    go_wp2;go_ret
    exact⟨yP (xH fun h=>by have:=(h.nodes k y HG.out).2.1 m f HF.out;have:=S1.out;omega).symm,HB4.out⟩
   have s1':decide ((x.zC.length:Int)≤f)=false:=decide_eq_false s1;go_wp2
   go_roundw
   case rel=>exact⟨m+1,by omega,by go_num,HS2.out.step HF.out zM,HS4.out⟩
   case measure=>simp[intOf];omega
end
section
open Go.RowKit
theorem c_iSamePatch (a b:xO) (v1:Value) (v2:Value) (v3:Value) (u1:Value) (u2:Value) (u3:Value) (w:World) (r1:T.rd w (T.sl 26 1 (a.zV.map (T.ints 2))) [v1]) (r2:T.rd w (T.sl 167 4 (a.zC.map xR.t)) [v2]) (r3:T.rd w (T.ints 2 a.zT) [v3]) (t1:T.rd w (T.sl 26 1 (b.zV.map (T.ints 2))) [u1]) (t2:T.rd w (T.sl 167 4 (b.zC.map xR.t)) [u2]) (t3:T.rd w (T.ints 2 b.zT) [u3]):
  Calls Tryz.prog 221 #[.agg #[.int .i64 a.zS,v1,v2,v3],.agg #[.int .i64 b.zS,u1,u2,u3]] w fun e w'=>e= .returned (.bool (decide (a=b)))∧Below w.heap.size w w':=by
 have hab:decide (a=b)=(decide (a.zS=b.zS) && (decide (a.zV=b.zV) && (decide (a.zT=b.zT) && (decide (a.zC=b.zC))))):=by
  obtain⟨x0,x1,x2,x3⟩:=a;obtain⟨y0,y1,y2,y3⟩:=b;rw[Bool.eq_iff_iff];simp only[xO.mk.injEq,decide_eq_true_eq,Bool.and_eq_true]
  try (constructor<;>(intro h;simp[h]))
 have R1:=xN r1;have Q1:=xN t1;have R2:=xN r2;have Q2:=xN t2;have R3:=xN r3;have Q3:=xN t3;obtain⟨va1,vl1,vc1,rfl⟩:=T.xD r1;obtain⟨ua1,ul1,uc1,rfl⟩:=T.xD t1;obtain⟨va2,vc2,rfl,hla2,hca2,hxa2⟩:=T.yV r2;obtain⟨ua2,uc2,rfl,hlb2,hcb2,hxb2⟩:=T.yV t2;rw[List.length_map] at hla2 hlb2 R2 Q2 ⊢;rw[List.length_map];have HXA2:=xN hxa2;have HXB2:=xN hxb2;clear hxa2 hxb2;obtain⟨va3,vl3,vc3,rfl⟩:=T.xD r3;obtain⟨ua3,ul3,uc3,rfl⟩:=T.xD t3;clear r1 t1 r2 t2 r3 t3;have HAB:=xN hab;clear hab;have HB0:=xN (show Below w.heap.size w ((w.alloc (.cells #[.int .i64 a.zS,(.slice va1 vl1 vc1),(.slice va2 a.zC.length vc2),(.slice va3 vl3 vc3)] 108)).alloc (.cells #[.int .i64 b.zS,(.slice ua1 ul1 uc1),(.slice ua2 b.zC.length uc2),(.slice ua3 ul3 uc3)] 108)) from(zR.alloc zJ _).alloc zQ _);have HKA0:=xN ((Bk.born w 108 #[.int .i64 a.zS,(.slice va1 vl1 vc1),(.slice va2 a.zC.length vc2),(.slice va3 vl3 vc3)]).alloc (.cells #[.int .i64 b.zS,(.slice ua1 ul1 uc1),(.slice ua2 b.zC.length uc2),(.slice ua3 ul3 uc3)] 108));have HKB0:=xN (Bk.born1' w (.cells #[.int .i64 a.zS,(.slice va1 vl1 vc1),(.slice va2 a.zC.length vc2),(.slice va3 vl3 vc3)] 108) 108 #[.int .i64 b.zS,(.slice ua1 ul1 uc1),(.slice ua2 b.zC.length uc2),(.slice ua3 ul3 uc3)]);by_cases h0:a.zS=b.zS
 ·have e0:(a.zS != b.zS)=false:=by simp[h0]
  have H0:=xN h0;clear h0;by_cases h1:a.zV=b.zV
  ·have c1:decide (a.zV=b.zV)=true:=by simp[h1]
   have H1:=xN h1;clear h1;by_cases h2:a.zT=b.zT
   ·have c2:decide (a.zT=b.zT)=true:=by simp[h2]
    have H2:=xN h2;clear h2;by_cases h3:a.zC.length=b.zC.length
    ·have e3:((a.zC.length:Int) != (b.zC.length:Int))=false:=by simp;omega
     have HL2:=xN h3;clear h3
     go_enter Tryz.func221,Tryz.ntmps221
     go_wp2_with fail
     refine(zHy _ _ a.zV b.zV _ (T.yM R1.out HB0.out) (T.yM Q1.out HB0.out)).mono ?_;rintro e w1 ⟨rfl,hd⟩;rw[c1];have hb:Below ((w.alloc (.cells #[.int .i64 a.zS,(.slice va1 vl1 vc1),(.slice va2 a.zC.length vc2),(.slice va3 vl3 vc3)] 108)).alloc (.cells #[.int .i64 b.zS,(.slice ua1 ul1 uc1),(.slice ua2 b.zC.length uc2),(.slice ua3 ul3 uc3)] 108)).heap.size ((w.alloc (.cells #[.int .i64 a.zS,(.slice va1 vl1 vc1),(.slice va2 a.zC.length vc2),(.slice va3 vl3 vc3)] 108)).alloc (.cells #[.int .i64 b.zS,(.slice ua1 ul1 uc1),(.slice ua2 b.zC.length uc2),(.slice ua3 ul3 uc3)] 108)) w1:=by first|exact hd.to_below _|exact hd
     have HKA1:=xN (HKA0.out.below hb HKA0.out.lt);have HKB1:=xN (HKB0.out.below hb HKB0.out.lt);have HB1:=xN (yQ HB0.out HB0.out.size hb);clear hb hd;have ka1:=HKA1.out.cell;have kb1:=HKB1.out.cell;go_wp2_with fail
     refine(c_same _ _ a.zT b.zT _ (T.xB.1 (T.yM R3.out HB1.out)) (T.xB.1 (T.yM Q3.out HB1.out))).mono ?_;rintro e w2 ⟨rfl,hd⟩;rw[c2];have hb:Below w1.heap.size w1 w2:=by first|exact hd.to_below _|exact hd
     have HKA2:=xN (HKA1.out.below hb HKA1.out.lt);have HKB2:=xN (HKB1.out.below hb HKB1.out.lt);have HB2:=xN (yQ HB1.out HB1.out.size hb);clear hb hd;have ka2:=HKA2.out.cell;have kb2:=HKB2.out.cell;go_wp2
     go_loopw [40] (fun i wr=> ∃ k:Nat,k≤a.zC.length∧i= .int .i64 k∧a.zC.take k=b.zC.take k∧Below w2.heap.size w2 wr) (fun i _=>a.zC.length - (intOf i).toNat)
     case atStart=>exact⟨0,Nat.zero_le _,rfl,rfl,zR⟩
     case round=>
      obtain⟨k,hk,rfl,hs,hbw⟩:=hrel;have HS:=xN hs;have HW:=xN hbw;clear hs hbw;have HB:=xN (yQ HB2.out HB2.out.size HW.out);have HKA:=xN (HKA2.out.below HW.out HKA2.out.lt);have HKB:=xN (HKB2.out.below HW.out HKB2.out.lt);have ka:=HKA.out.cell;have kb:=HKB.out.cell;have la:w.heap.size<wr.heap.size:=HKA.out.lt;have lb:w.heap.size+1<wr.heap.size:=HKB.out.lt;by_cases hlt:k<a.zC.length
      ·have hlt2:k<b.zC.length:=by have:=HL2.out;omega
       obtain⟨b1,o1,cs1,hA1,hbw1,hcs1,hcell1⟩:=HXA2.out k (xR.t a.zC[k]) (by rw[List.getElem?_map,gE hlt];rfl);obtain⟨b2,o2,cs2,hA2,hbw2,hcs2,hcell2⟩:=HXB2.out k (xR.t b.zC[k]) (by rw[List.getElem?_map,gE hlt2];rfl);subst hA1 hA2;have hg1:=gE hlt;have hg2:=gE hlt2;generalize a.zC[k]=x at *;generalize b.zC[k]=y at *;have HG1:=xN hg1;have HG2:=xN hg2;clear hg1 hg2;obtain⟨p3,rfl,hR13⟩:=xR.yV (show T.rds _ _ _ by simpa only[xR.t,T.rd] using hcs1);have d10:=(HB.out.cell hbw1).trans (hcell1 0 (.int .i64 x.zG) rfl);have d11:=(HB.out.cell hbw1).trans (hcell1 1 (.int .i64 x.fA) rfl);have d12:=(HB.out.cell hbw1).trans (hcell1 2 (.int .i64 x.fB) rfl);have d13:=(HB.out.cell hbw1).trans (hcell1 3 (p3) rfl);rw[show o1+(k * 4+0)=o1+k * 4 by omega] at d10;rw[show o1+(k * 4+1)=o1+k * 4+1 by omega] at d11;rw[show o1+(k * 4+2)=o1+k * 4+2 by omega] at d12;rw[show o1+(k * 4+3)=o1+k * 4+3 by omega] at d13;have R13:=xN (T.yM hR13 HB.out);clear hR13;clear hcs1 hcell1;have hq1:b1<wr.heap.size:=zW hbw1 HB.out.size;obtain⟨pa3,pl3,pc3,rfl⟩:=T.xD R13.out;obtain⟨q3,rfl,hR23⟩:=xR.yV (show T.rds _ _ _ by simpa only[xR.t,T.rd] using hcs2);have d20:=(HB.out.cell hbw2).trans (hcell2 0 (.int .i64 y.zG) rfl);have d21:=(HB.out.cell hbw2).trans (hcell2 1 (.int .i64 y.fA) rfl);have d22:=(HB.out.cell hbw2).trans (hcell2 2 (.int .i64 y.fB) rfl);have d23:=(HB.out.cell hbw2).trans (hcell2 3 (q3) rfl);rw[show o2+(k * 4+0)=o2+k * 4 by omega] at d20;rw[show o2+(k * 4+1)=o2+k * 4+1 by omega] at d21;rw[show o2+(k * 4+2)=o2+k * 4+2 by omega] at d22;rw[show o2+(k * 4+3)=o2+k * 4+3 by omega] at d23;have R23:=xN (T.yM hR23 HB.out);clear hR23;clear hcs2 hcell2;have hq2:b2<wr.heap.size:=zW hbw2 HB.out.size;obtain⟨qa3,ql3,qc3,rfl⟩:=T.xD R23.out;have hW:=HW.out;have hB:=HB.out;by_cases he:x=y
       ·have hde:decide (x=y)=true:=decide_eq_true he
        have HE:=xN he;clear he;go_wp2
        go_region_held3 (fun w'=>w'.cell? ⟨wr.heap.size,0,none⟩=some (.int .i64 x.zG)∧w'.cell? ⟨wr.heap.size,1,none⟩=some (.int .i64 x.fA)∧w'.cell? ⟨wr.heap.size,2,none⟩=some (.int .i64 x.fB)∧w'.cell? ⟨wr.heap.size,3,none⟩=some ((.slice pa3 pl3 pc3))∧w'.cell? ⟨w.heap.size+1,2,none⟩=some (.slice (some ⟨b2,o2,none⟩) b.zC.length uc2)∧w'.cell? ⟨b2,o2+k * 4,none⟩=some (.int .i64 y.zG)∧w'.cell? ⟨b2,o2+k * 4+1,none⟩=some (.int .i64 y.fA)∧w'.cell? ⟨b2,o2+k * 4+2,none⟩=some (.int .i64 y.fB)∧w'.cell? ⟨b2,o2+k * 4+3,none⟩=some ((.slice qa3 ql3 qc3))) (first|go_keep|(refine⟨(hb3.cell ?_).trans ?_,(hb3.cell ?_).trans ?_,(hb3.cell ?_).trans ?_,(hb3.cell ?_).trans ?_,(hb3.cell ?_).trans ?_,(hb3.cell ?_).trans ?_,(hb3.cell ?_).trans ?_,(hb3.cell ?_).trans ?_,(hb3.cell ?_).trans ?_⟩<;>first|assumption|(simp[*];done)|(simp;omega))) (first|(go_at_call 259;refine(c_iSameNode x y _ _ _ (T.yM R13.out (by repeat(first|with_reducible exact zR|with_reducible refine Below.alloc ?_ zJ _|with_reducible refine Below.drew ?_|with_reducible refine below_drewN ?_ _))) (T.yM R23.out (by repeat(first|with_reducible exact zR|with_reducible refine Below.alloc ?_ zJ _|with_reducible refine Below.drew ?_|with_reducible refine below_drewN ?_ _)))).mono ?_;rintro e w3 ⟨rfl,hb3⟩;rw[hde]))
        have hb4:Below wr.heap.size wr w3:=by first|exact yT hb3|exact yT (undrew hb3)|exact yT (wP hb3)|exact hb3|exact undrew hb3|exact wP hb3
        have HC:=xN (yQ HW.out HW.out.size hb4);have HC2:=xN (yQ HB.out HB.out.size hb4);clear hb4 hb3;go_wp2
        go_roundw
        case rel=>exact⟨k+1,by omega,by go_num,wLz HS.out HG1.out (by rw[HE.out];exact HG2.out),(by first|exact HC.out|exact HC.out.drew|exact below_drewN HC.out _)⟩
        case measure=>simp[intOf];omega
       ·have hde:decide (x=y)=false:=decide_eq_false he
        have HE:=xN he;clear he;go_wp2
        go_region_held3 (fun w'=>w'.cell? ⟨wr.heap.size,0,none⟩=some (.int .i64 x.zG)∧w'.cell? ⟨wr.heap.size,1,none⟩=some (.int .i64 x.fA)∧w'.cell? ⟨wr.heap.size,2,none⟩=some (.int .i64 x.fB)∧w'.cell? ⟨wr.heap.size,3,none⟩=some ((.slice pa3 pl3 pc3))∧w'.cell? ⟨w.heap.size+1,2,none⟩=some (.slice (some ⟨b2,o2,none⟩) b.zC.length uc2)∧w'.cell? ⟨b2,o2+k * 4,none⟩=some (.int .i64 y.zG)∧w'.cell? ⟨b2,o2+k * 4+1,none⟩=some (.int .i64 y.fA)∧w'.cell? ⟨b2,o2+k * 4+2,none⟩=some (.int .i64 y.fB)∧w'.cell? ⟨b2,o2+k * 4+3,none⟩=some ((.slice qa3 ql3 qc3))) (first|go_keep|(refine⟨(hb3.cell ?_).trans ?_,(hb3.cell ?_).trans ?_,(hb3.cell ?_).trans ?_,(hb3.cell ?_).trans ?_,(hb3.cell ?_).trans ?_,(hb3.cell ?_).trans ?_,(hb3.cell ?_).trans ?_,(hb3.cell ?_).trans ?_,(hb3.cell ?_).trans ?_⟩<;>first|assumption|(simp[*];done)|(simp;omega))) (first|(go_at_call 259;refine(c_iSameNode x y _ _ _ (T.yM R13.out (by repeat(first|with_reducible exact zR|with_reducible refine Below.alloc ?_ zJ _|with_reducible refine Below.drew ?_|with_reducible refine below_drewN ?_ _))) (T.yM R23.out (by repeat(first|with_reducible exact zR|with_reducible refine Below.alloc ?_ zJ _|with_reducible refine Below.drew ?_|with_reducible refine below_drewN ?_ _)))).mono ?_;rintro e w3 ⟨rfl,hb3⟩;rw[hde]))
        have hb4:Below wr.heap.size wr w3:=by first|exact yT hb3|exact yT (undrew hb3)|exact yT (wP hb3)|exact hb3|exact undrew hb3|exact wP hb3
        have HC:=xN (yQ HW.out HW.out.size hb4);have HC2:=xN (yQ HB.out HB.out.size hb4);clear hb4 hb3;go_wp2;go_ret
        have hne:=ne_at HG1.out HG2.out HE.out;exact⟨yP (by rw[HAB.out];simp[H0.out,H1.out,H2.out,hne]),(by first|exact HC2.out|exact HC2.out.drew|exact below_drewN HC2.out _)⟩
      ·have hall:=xTz (k:=k) zM HL2.out HS.out
       have HALL2:=xN hall;clear hall;go_wp2;go_ret
       exact⟨yP (by rw[HAB.out];simp[H0.out,H1.out,H2.out,HALL2.out]),HB.out⟩
    ·have e3:((a.zC.length:Int) != (b.zC.length:Int))=true:=by simp;omega
     have H3:=xN (show ¬ a.zC=b.zC from fun e=>h3 (by rw[e]));clear h3
     go_enter Tryz.func221,Tryz.ntmps221
     go_wp2_with fail
     refine(zHy _ _ a.zV b.zV _ (T.yM R1.out HB0.out) (T.yM Q1.out HB0.out)).mono ?_;rintro e w1 ⟨rfl,hd⟩;rw[c1];have hb:Below ((w.alloc (.cells #[.int .i64 a.zS,(.slice va1 vl1 vc1),(.slice va2 a.zC.length vc2),(.slice va3 vl3 vc3)] 108)).alloc (.cells #[.int .i64 b.zS,(.slice ua1 ul1 uc1),(.slice ua2 b.zC.length uc2),(.slice ua3 ul3 uc3)] 108)).heap.size ((w.alloc (.cells #[.int .i64 a.zS,(.slice va1 vl1 vc1),(.slice va2 a.zC.length vc2),(.slice va3 vl3 vc3)] 108)).alloc (.cells #[.int .i64 b.zS,(.slice ua1 ul1 uc1),(.slice ua2 b.zC.length uc2),(.slice ua3 ul3 uc3)] 108)) w1:=by first|exact hd.to_below _|exact hd
     have HKA1:=xN (HKA0.out.below hb HKA0.out.lt);have HKB1:=xN (HKB0.out.below hb HKB0.out.lt);have HB1:=xN (yQ HB0.out HB0.out.size hb);clear hb hd;have ka1:=HKA1.out.cell;have kb1:=HKB1.out.cell;go_wp2_with fail
     refine(c_same _ _ a.zT b.zT _ (T.xB.1 (T.yM R3.out HB1.out)) (T.xB.1 (T.yM Q3.out HB1.out))).mono ?_;rintro e w2 ⟨rfl,hd⟩;rw[c2];have hb:Below w1.heap.size w1 w2:=by first|exact hd.to_below _|exact hd
     have HKA2:=xN (HKA1.out.below hb HKA1.out.lt);have HKB2:=xN (HKB1.out.below hb HKB1.out.lt);have HB2:=xN (yQ HB1.out HB1.out.size hb);clear hb hd;have ka2:=HKA2.out.cell;have kb2:=HKB2.out.cell;go_wp2;go_ret
     exact⟨yP (by rw[HAB.out];simp[H0.out,H1.out,H2.out,H3.out]),HB2.out⟩
   ·have c2:decide (a.zT=b.zT)=false:=by simp[h2]
    have H2:=xN h2;clear h2
    go_enter Tryz.func221,Tryz.ntmps221
    go_wp2_with fail
    refine(zHy _ _ a.zV b.zV _ (T.yM R1.out HB0.out) (T.yM Q1.out HB0.out)).mono ?_;rintro e w1 ⟨rfl,hd⟩;rw[c1];have hb:Below ((w.alloc (.cells #[.int .i64 a.zS,(.slice va1 vl1 vc1),(.slice va2 a.zC.length vc2),(.slice va3 vl3 vc3)] 108)).alloc (.cells #[.int .i64 b.zS,(.slice ua1 ul1 uc1),(.slice ua2 b.zC.length uc2),(.slice ua3 ul3 uc3)] 108)).heap.size ((w.alloc (.cells #[.int .i64 a.zS,(.slice va1 vl1 vc1),(.slice va2 a.zC.length vc2),(.slice va3 vl3 vc3)] 108)).alloc (.cells #[.int .i64 b.zS,(.slice ua1 ul1 uc1),(.slice ua2 b.zC.length uc2),(.slice ua3 ul3 uc3)] 108)) w1:=by first|exact hd.to_below _|exact hd
    have HKA1:=xN (HKA0.out.below hb HKA0.out.lt);have HKB1:=xN (HKB0.out.below hb HKB0.out.lt);have HB1:=xN (yQ HB0.out HB0.out.size hb);clear hb hd;have ka1:=HKA1.out.cell;have kb1:=HKB1.out.cell;go_wp2_with fail
    refine(c_same _ _ a.zT b.zT _ (T.xB.1 (T.yM R3.out HB1.out)) (T.xB.1 (T.yM Q3.out HB1.out))).mono ?_;rintro e w2 ⟨rfl,hd⟩;rw[c2];have hb:Below w1.heap.size w1 w2:=by first|exact hd.to_below _|exact hd
    have HKA2:=xN (HKA1.out.below hb HKA1.out.lt);have HKB2:=xN (HKB1.out.below hb HKB1.out.lt);have HB2:=xN (yQ HB1.out HB1.out.size hb);clear hb hd;have ka2:=HKA2.out.cell;have kb2:=HKB2.out.cell;go_wp2;go_ret
    exact⟨yP (by rw[HAB.out];simp[H0.out,H1.out,H2.out]),HB2.out⟩
  ·have c1:decide (a.zV=b.zV)=false:=by simp[h1]
   have H1:=xN h1;clear h1
   go_enter Tryz.func221,Tryz.ntmps221
   go_wp2_with fail
   refine(zHy _ _ a.zV b.zV _ (T.yM R1.out HB0.out) (T.yM Q1.out HB0.out)).mono ?_;rintro e w1 ⟨rfl,hd⟩;rw[c1];have hb:Below ((w.alloc (.cells #[.int .i64 a.zS,(.slice va1 vl1 vc1),(.slice va2 a.zC.length vc2),(.slice va3 vl3 vc3)] 108)).alloc (.cells #[.int .i64 b.zS,(.slice ua1 ul1 uc1),(.slice ua2 b.zC.length uc2),(.slice ua3 ul3 uc3)] 108)).heap.size ((w.alloc (.cells #[.int .i64 a.zS,(.slice va1 vl1 vc1),(.slice va2 a.zC.length vc2),(.slice va3 vl3 vc3)] 108)).alloc (.cells #[.int .i64 b.zS,(.slice ua1 ul1 uc1),(.slice ua2 b.zC.length uc2),(.slice ua3 ul3 uc3)] 108)) w1:=by first|exact hd.to_below _|exact hd
   have HKA1:=xN (HKA0.out.below hb HKA0.out.lt);have HKB1:=xN (HKB0.out.below hb HKB0.out.lt);have HB1:=xN (yQ HB0.out HB0.out.size hb);clear hb hd;have ka1:=HKA1.out.cell;have kb1:=HKB1.out.cell;go_wp2;go_ret
   exact⟨yP (by rw[HAB.out];simp[H0.out,H1.out]),HB1.out⟩
 ·have e0:(a.zS != b.zS)=true:=by simp[h0]
  have H0:=xN h0;clear h0
  go_enter Tryz.func221,Tryz.ntmps221
  go_wp2;go_ret
  exact⟨yP (by rw[HAB.out];simp[H0.out]),HB0.out⟩
end
end Go.Proofs.YtoibekfhepnedaaGreat
