/- Contracts: what is valid, by the reference: tables, nodes, well formed patches. -/
import Derived.Test.YtoibekfhepnedaaGreatQAoExactSoundCache
set_option linter.unusedVariables false
set_option linter.unusedSimpArgs false
set_option maxHeartbeats 2000000
set_option maxRecDepth 20000
namespace Go.Proofs.YtoibekfhepnedaaGreat
open Go.RowKit
theorem kndF_hasB {n:Int} (h:inB n 1 17=true):(kndF n).hasB=decide (n=17):=by
 have hb:=yZ.1 h
 have:n=1∨n=2∨n=3∨n=4∨n=5∨n=6∨n=7∨n=8∨n=9∨n=10∨n=11∨n=12∨n=13∨n=14∨n=15∨n=16∨n=17:=by omega
 rcases this with rfl|rfl|rfl|rfl|rfl|rfl|rfl|rfl|rfl|rfl|rfl|rfl|rfl|rfl|rfl|rfl|rfl
 all_goals rfl
theorem c_l06Ok (x:GNode) (b o:Nat) (n:Int) (w:World) (n0:0≤n) (n1:n≤1048576) (h:T.at w x.fs b o):Calls Tryz.prog 233 #[.pointer (some ⟨b,o,none⟩),.int .i64 n] w fun e w'=>e= .returned (.bool (tf (NodeOk x n)))∧Below w.heap.size w w':=by
 have HAT:=hide h
 obtain⟨hlt0,cs,hr,hc⟩:=h
 obtain⟨v3,rfl,h3⟩:=GNode.yN hr
 clear hr
 have h3i:=T.yR.1 h3;obtain⟨va3,vc3,rfl,vl3,vm3,vx3⟩:=h3i.open_
 have R3:=hide h3i;have HX3:=hide vx3;clear vx3 h3 h3i
 have HL:=hide hlt0;have HCC:=hide hc;have HB0:=hide (Below.refl w.heap.size w);clear hlt0 hc
 have p0:w.cell? ⟨b,o,none⟩=some (.int .i64 x.zD):=(HB0.out.cell HL.out).trans (HCC.out 0 _ rfl)
 have p1:w.cell? ⟨b,o+1,none⟩=some (.int .i64 x.fA):=(HB0.out.cell HL.out).trans (HCC.out 1 _ rfl)
 have p2:w.cell? ⟨b,o+2,none⟩=some (.int .i64 x.fB):=(HB0.out.cell HL.out).trans (HCC.out 2 _ rfl)
 have p3:w.cell? ⟨b,o+3,none⟩=some (.slice va3 x.zH.length vc3):=(HB0.out.cell HL.out).trans (HCC.out 3 _ rfl)
 have lb:b<w.heap.size:=Nat.lt_of_lt_of_le HL.out HB0.out.size
 go_enter Tryz.func233,Tryz.ntmps233
 go_wp2
 by_cases q1:inB x.zD 1 17=true
 rotate_left
 ·have q1':inB x.zD 1 17=false:=(by simpa using q1)
  have g0:=yF p0
  have g1:=yF p3
  refine xA (by kernel_rfl) (by kernel_rfl) ?_
  repeat(first|go_big_quiet_skip|(go_big_quiet_want;go_big_quiet_op;first|go_big_quiet_on|(apply Exists.intro;refine⟨fun _=>?_,?_⟩;(· (first|(go_at_call 268;exact Calls.yJ ((c_l06Kind _ _).mono (fun e w' h=>by(first|rw[q1'] at h|skip);exact h)))));go_big_quiet_on)))
  refine wpQuiet_nil ?_
  rintro w9 ⟨uu,rfl⟩
  have hb9:=yG w uu
  generalize bel w uu=w9 at *
  have HB9:=hide (yI HB0.out HB0.out.size hb9);clear g0 g1
  go_wp2
  go_ret
  exact⟨yH (yW fun h=>q1 h.kind).symm,HB9.out⟩
 have q1':=q1
 by_cases q2:AOk x∧(x.zD=13→x.fA<n)
 rotate_left
 ·have a2:=yW q2;have Q2:=hide q2;clear q2
  have g0:=yF p0
  have g1:=yF p3
  refine xA (by kernel_rfl) (by kernel_rfl) ?_
  repeat(first|go_big_quiet_skip|(go_big_quiet_want;go_big_quiet_op;first|go_big_quiet_on|(apply Exists.intro;refine⟨fun _=>?_,?_⟩;(· (first|(go_at_call 268;exact Calls.yJ ((c_l06Kind _ _).mono (fun e w' h=>by(first|rw[q1'] at h|skip);exact h)))|(go_at_call 269;exact Calls.yK ((c_l06A x _ _ _ _ q1' n0 n1 (T.at_below HAT.out (yG w _))).mono (fun e w' h=>by(first|rw[a2] at h|skip);exact h)))));go_big_quiet_on)))
  refine wpQuiet_nil ?_
  rintro w9 ⟨uu,rfl⟩
  have hb9:=yG w uu
  generalize bel w uu=w9 at *
  have HB9:=hide (yI HB0.out HB0.out.size hb9);clear g0 g1
  go_wp2
  go_ret
  exact⟨yH (yW fun h=>Q2.out ⟨h.a,h.table⟩).symm,HB9.out⟩
 have a2:=yX q2;have Q2:=hide q2;clear q2
 by_cases q3:(x.zH.length:Int)=(kndF x.zD).inputs
 rotate_left
 ·have a3:((x.zH.length:Int) != (kndF x.zD).inputs)=true:=bneI_t q3;have Q3:=hide q3;clear q3
  have g0:=yF p0
  have g1:=yF p3
  refine xA (by kernel_rfl) (by kernel_rfl) ?_
  repeat(first|go_big_quiet_skip|(go_big_quiet_want;go_big_quiet_op;first|go_big_quiet_on|(apply Exists.intro;refine⟨fun _=>?_,?_⟩;(· (first|(go_at_call 268;exact Calls.yJ ((c_l06Kind _ _).mono (fun e w' h=>by(first|rw[q1'] at h|skip);exact h)))|(go_at_call 269;exact Calls.yK ((c_l06A x _ _ _ _ q1' n0 n1 (T.at_below HAT.out (yG w _))).mono (fun e w' h=>by(first|rw[a2] at h|skip);exact h)))|(go_at_call 217;exact Calls.yK (c_l06Arity _ q1' _))));go_big_quiet_on)))
  refine wpQuiet_nil ?_
  rintro w9 ⟨uu,rfl⟩
  have hb9:=yG w uu
  generalize bel w uu=w9 at *
  have HB9:=hide (yI HB0.out HB0.out.size hb9);clear g0 g1
  go_wp2
  go_ret
  exact⟨yH (yW fun h=>Q3.out h.arity).symm,HB9.out⟩
 have a3:((x.zH.length:Int) != (kndF x.zD).inputs)=false:=bneI_f q3;have Q3:=hide q3;clear q3
 have g0:=yF p0
 have g1:=yF p3
 refine xA (by kernel_rfl) (by kernel_rfl) ?_
 repeat(first|go_big_quiet_skip|(go_big_quiet_want;go_big_quiet_op;first|go_big_quiet_on|(apply Exists.intro;refine⟨fun _=>?_,?_⟩;(· (first|(go_at_call 268;exact Calls.yJ ((c_l06Kind _ _).mono (fun e w' h=>by(first|rw[q1'] at h|skip);exact h)))|(go_at_call 269;exact Calls.yK ((c_l06A x _ _ _ _ q1' n0 n1 (T.at_below HAT.out (yG w _))).mono (fun e w' h=>by(first|rw[a2] at h|skip);exact h)))|(go_at_call 217;exact Calls.yK (c_l06Arity _ q1' _))));go_big_quiet_on)))
 refine wpQuiet_nil ?_
 rintro w9 ⟨uu,rfl⟩
 have hb9:=yG w uu
 generalize bel w uu=w9 at *
 have HB9:=hide (yI HB0.out HB0.out.size hb9);clear g0 g1
 clear hb9 p0 p1 p2 p3 lb a2 a3
 have p0:w9.cell? ⟨b,o,none⟩=some (.int .i64 x.zD):=(HB9.out.cell HL.out).trans (HCC.out 0 _ rfl)
 have p1:w9.cell? ⟨b,o+1,none⟩=some (.int .i64 x.fA):=(HB9.out.cell HL.out).trans (HCC.out 1 _ rfl)
 have p2:w9.cell? ⟨b,o+2,none⟩=some (.int .i64 x.fB):=(HB9.out.cell HL.out).trans (HCC.out 2 _ rfl)
 have p3:w9.cell? ⟨b,o+3,none⟩=some (.slice va3 x.zH.length vc3):=(HB9.out.cell HL.out).trans (HCC.out 3 _ rfl)
 have lb:b<w9.heap.size:=Nat.lt_of_lt_of_le HL.out HB9.out.size
 go_wp2
 clear p0 p1 p2 p3 lb
 go_loopw [5] (fun i wr=> ∃ k:Nat,k≤x.zH.length∧i= .int .i64 k∧Upto x.zH (fun _ f=>inB f 0 23=true) k∧Below w9.heap.size w9 wr) (fun i _=>x.zH.length - (intOf i).toNat)
 case atStart=>exact⟨0,Nat.zero_le _,rfl,Upto.zero,Below.refl _ _⟩
 case round=>
  obtain⟨k,hk,rfl,hs,hbw⟩:=hrel
  have HS:=hide hs;have HW:=hide hbw;have HB:=hide (yI HB9.out HB9.out.size hbw);clear hs hbw
  have p0:wr.cell? ⟨b,o,none⟩=some (.int .i64 x.zD):=(HB.out.cell HL.out).trans (HCC.out 0 _ rfl)
  have p1:wr.cell? ⟨b,o+1,none⟩=some (.int .i64 x.fA):=(HB.out.cell HL.out).trans (HCC.out 1 _ rfl)
  have p2:wr.cell? ⟨b,o+2,none⟩=some (.int .i64 x.fB):=(HB.out.cell HL.out).trans (HCC.out 2 _ rfl)
  have p3:wr.cell? ⟨b,o+3,none⟩=some (.slice va3 x.zH.length vc3):=(HB.out.cell HL.out).trans (HCC.out 3 _ rfl)
  have lb:b<wr.heap.size:=Nat.lt_of_lt_of_le HL.out HB.out.size
  by_cases hlt:k<x.zH.length
  rotate_left
  ·have hall:=hide (HS.out.all (by omega));clear HS
   by_cases e7:x.zD=17
   ·have b7:(x.zD == 17)=true:=yQ e7;have E7:=hide e7;clear e7
    go_wp2_with (go_at_call 87;refine(c_l00In _ _ _ _).mono ?_;rintro e w' ⟨rfl,rfl⟩)
    go_ret
    exact⟨yH (by
     have hB:=kndF_hasB q1'
     by_cases h:inB x.fB 1 16=true
     ·rw[yX ⟨q1',Q2.out.1,by rw[hB];simp[E7.out];exact h,hall.out,Q3.out,Q2.out.2⟩];exact h
     ·rw[yW (fun hh=>h (by have h1:=hh.b;rw[hB] at h1;simp[E7.out] at h1;exact h1))];simpa using h),HB.out⟩
   ·have b7:(x.zD == 17)=false:=yP e7;have E7:=hide e7;clear e7
    go_wp2_with (go_at_call 87;refine(c_l00In _ _ _ _).mono ?_;rintro e w' ⟨rfl,rfl⟩)
    go_ret
    exact⟨yH (by
     have hB:=kndF_hasB q1'
     by_cases h:x.fB=0
     ·rw[yX ⟨q1',Q2.out.1,by rw[hB];simp[E7.out];exact h,hall.out,Q3.out,Q2.out.2⟩];exact yQ h
     ·rw[yW (fun hh=>h (by have h1:=hh.b;rw[hB] at h1;simp[E7.out] at h1;exact h1))];exact yP h),HB.out⟩
  have hgk:=List.getElem?_eq_getElem hlt
  obtain⟨b1,off,hA,hb1,hcell⟩:=HX3.out k x.zH[k] hgk
  subst hA
  generalize x.zH[k]=y at *
  have HG:=hide hgk;clear hgk
  have cy:=(HB.out.cell hb1).trans hcell;have hq1:b1<wr.heap.size:=Nat.lt_of_lt_of_le hb1 HB.out.size
  by_cases s1:inB y 0 23=true
  rotate_left
  ·have s1':inB y 0 23=false:=(by simpa using s1)
   go_wp2_with (go_at_call 87;refine(c_l00In _ _ _ _).mono ?_;rintro e w' ⟨rfl,rfl⟩)
   go_ret
   exact⟨yH (yW fun h=>s1 (h.from_ k y HG.out)).symm,HB.out⟩
  go_wp2_with (go_at_call 87;refine(c_l00In _ _ _ _).mono ?_;rintro e w' ⟨rfl,rfl⟩)
  go_roundw
  case rel=>exact⟨k+1,by omega,by go_num,HS.out.step HG.out s1,HW.out⟩
  case measure=>simp[intOf];omega
theorem c_l06Tables (v:Value) (xs:List (List Int)) (w:World) (hr:T.rd w (T.sl 26 1 (xs.map (T.ints 2))) [v]):Calls Tryz.prog 232 #[v] w fun e w'=>e= .returned (.bool (tf (TablesOk xs)))∧Below w.heap.size w w':=by
 obtain⟨A,cap,rfl,hl,hc,hx⟩:=T.yM hr
 have HX:=hide hx;clear hx hr
 go_enter Tryz.func232,Tryz.ntmps232
 go_wp2
 go_loopw [3] (fun i wr=> ∃ k:Nat,k≤xs.length∧i= .int .i64 k∧Upto xs (fun _ t=>(t.length=2∨t.length=4∨t.length=8∨t.length=16)∧smpB t=true) k∧Below w.heap.size w wr) (fun i _=>xs.length - (intOf i).toNat)
 case atStart=>exact⟨0,Nat.zero_le _,rfl,Upto.zero,Below.refl _ _⟩
 case round=>
  obtain⟨k,hk,rfl,hs,hbw⟩:=hrel
  have HS:=hide hs;have HB:=hide hbw;clear hs hbw
  by_cases hlt:k<xs.length
  rotate_left
  ·have hall:=hide (HS.out.all (by omega));clear HS
   by_cases h4:xs.length≤4
   ·go_wp2
    go_ret
    exact⟨yH (by rw[yX ⟨hall.out,h4⟩];simp;omega),HB.out⟩
   ·go_wp2
    go_ret
    exact⟨yH (by rw[yW fun h=>h4 h.few];simp;omega),HB.out⟩
  have hgk:=List.getElem?_eq_getElem hlt
  obtain⟨b,off,cs,rfl,hb,hcs,hcell⟩:=HX.out k xs[k] hgk
  generalize xs[k]=l at *
  have HG:=hide hgk;clear hgk
  obtain⟨v3,rfl⟩:=T.rd_one hcs
  have d0:=(HB.out.cell hb).trans (hcell 0 v3 rfl)
  rw[Nat.mul_one,Nat.add_zero] at d0
  have R:=hide (show RdI wr v3 l from Rd.below (T.yR.1 hcs) HB.out);clear hcs hcell
  obtain⟨A3,c3,rfl,l3,m3,x3⟩:=R.out.open_
  clear x3
  have hq1:b<wr.heap.size:=Nat.lt_of_lt_of_le hb HB.out.size
  have n1:((k:Int)<(xs.length:Int)):=by omega
  have HR:=hide (rdI_bk (xs:= [2,4,8,16]) (Bk.born wr 2 #[.int .i64 2,.int .i64 4,.int .i64 8,.int .i64 16]) rfl (by decide))
  have HW:=hide (show Below wr.heap.size wr (wr.alloc (.cells #[.int .i64 2,.int .i64 4,.int .i64 8,.int .i64 16] 2)) from(Below.refl _ _).alloc (Nat.le_refl _) _)
  have HB2:=hide (yI HB.out HB.out.size HW.out)
  by_cases q1:(l.length:Int) ∈ ([2,4,8,16]:List Int)
  rotate_left
  ·have a1:decide ((l.length:Int) ∈ ([2,4,8,16]:List Int))=false:=decide_eq_false q1
   have Q1:=hide q1;clear q1
   go_wp2_with (go_at_call 58;refine(c_l00Has _ [2,4,8,16] _ _ HR.out).mono ?_;rintro e w' ⟨rfl,rfl⟩;rw[a1])
   go_ret
   exact⟨yH (yW fun h=>Q1.out (by have:=(h.each k l HG.out).1;simp;omega)).symm,HB2.out⟩
  have a1:decide ((l.length:Int) ∈ ([2,4,8,16]:List Int))=true:=decide_eq_true q1
  have hn:l.length=2∨l.length=4∨l.length=8∨l.length=16:=by simp at q1;omega
  have HN:=hide hn;clear q1 hn
  have R2:=hide (RdI.below R.out HW.out)
  by_cases q2:smpB l=true
  ·have a2:sigB l=true:=by unfold sigB;rw[q2];simp;have:=HN.out;omega
   go_wp2_with (first|(go_at_call 58;refine(c_l00Has _ [2,4,8,16] _ _ HR.out).mono ?_;rintro e w' ⟨rfl,rfl⟩;rw[a1])|(go_at_call 123;refine(c_l03Ok _ l _ R2.out).mono ?_;rintro e w' ⟨rfl,rfl⟩;rw[a2]))
   go_roundw
   case rel=>exact⟨k+1,by omega,by go_num,HS.out.step HG.out ⟨HN.out,q2⟩,HB2.out⟩
   case measure=>simp[intOf];omega
  ·have a2:sigB l=false:=by unfold sigB;simp[q2]
   go_wp2_with (first|(go_at_call 58;refine(c_l00Has _ [2,4,8,16] _ _ HR.out).mono ?_;rintro e w' ⟨rfl,rfl⟩;rw[a1])|(go_at_call 123;refine(c_l03Ok _ l _ R2.out).mono ?_;rintro e w' ⟨rfl,rfl⟩;rw[a2]))
   go_ret
   exact⟨yH (yW fun h=>q2 (h.each k l HG.out).2).symm,HB2.out⟩
theorem c_l07Formed (x:GPatch) (b o:Nat) (w:World) (ht:x.zM.length≤1048576) (h:T.at w x.fs b o):Calls Tryz.prog 180 #[.pointer (some ⟨b,o,none⟩)] w fun e w'=>e= .returned (.bool (tf (FormedOk x)))∧Below w.heap.size w w':=by
 have HAT:=hide h
 obtain⟨hlt0,cs,hr,hc⟩:=h
 obtain⟨v1,v2,v3,rfl,h1,h2,h3⟩:=GPatch.yN hr
 clear hr
 have R1:=hide h1;obtain⟨va1,vc1,rfl,vl1,vm1,vx1⟩:=T.yM h1
 have HX1:=hide vx1;clear vx1 h1
 have R2:=hide h2;obtain⟨va2,vc2,rfl,vl2,vm2,vx2⟩:=T.yM h2
 have HX2:=hide vx2;clear vx2 h2
 have h3i:=T.yR.1 h3;obtain⟨va3,vc3,rfl,vl3,vm3,vx3⟩:=h3i.open_
 have R3:=hide h3i;have HX3:=hide vx3;clear vx3 h3 h3i
 have HL:=hide hlt0;have HCC:=hide hc;have HB0:=hide (Below.refl w.heap.size w);clear hlt0 hc
 have p0:w.cell? ⟨b,o,none⟩=some (.int .i64 x.zK):=(HB0.out.cell HL.out).trans (HCC.out 0 _ rfl)
 have p1:w.cell? ⟨b,o+1,none⟩=some (.slice va1 x.zM.length vc1):=(HB0.out.cell HL.out).trans (HCC.out 1 _ rfl)
 have p2:w.cell? ⟨b,o+2,none⟩=some (.slice va2 x.zB.length vc2):=(HB0.out.cell HL.out).trans (HCC.out 2 _ rfl)
 have p3:w.cell? ⟨b,o+3,none⟩=some (.slice va3 x.zL.length vc3):=(HB0.out.cell HL.out).trans (HCC.out 3 _ rfl)
 have lb:b<w.heap.size:=Nat.lt_of_lt_of_le HL.out HB0.out.size
 go_enter Tryz.func180,Tryz.ntmps180
 by_cases q1:inB x.zK 0 4=true
 rotate_left
 ·have q1':inB x.zK 0 4=false:=(by simpa using q1)
  go_wp2_with (go_at_call 87;refine(c_l00In _ _ _ _).mono ?_;rintro e w' ⟨rfl,rfl⟩)
  go_ret
  exact⟨yH (yW fun h=>q1 h.inputs).symm,HB0.out⟩
 go_wp2_with (go_at_call 87;refine(c_l00In _ _ _ _).mono ?_;rintro e w' ⟨rfl,rfl⟩)
 refine(c_l06Tables _ x.zM _ (T.yE R1.out HB0.out)).mono ?_;rintro e w1 ⟨rfl,hb1⟩
 have HB1:=hide (yI HB0.out HB0.out.size hb1);clear hb1 p0 p1 p2 p3 lb
 have p0:w1.cell? ⟨b,o,none⟩=some (.int .i64 x.zK):=(HB1.out.cell HL.out).trans (HCC.out 0 _ rfl)
 have p1:w1.cell? ⟨b,o+1,none⟩=some (.slice va1 x.zM.length vc1):=(HB1.out.cell HL.out).trans (HCC.out 1 _ rfl)
 have p2:w1.cell? ⟨b,o+2,none⟩=some (.slice va2 x.zB.length vc2):=(HB1.out.cell HL.out).trans (HCC.out 2 _ rfl)
 have p3:w1.cell? ⟨b,o+3,none⟩=some (.slice va3 x.zL.length vc3):=(HB1.out.cell HL.out).trans (HCC.out 3 _ rfl)
 have lb:b<w1.heap.size:=Nat.lt_of_lt_of_le HL.out HB1.out.size
 by_cases q2:TablesOk x.zM
 rotate_left
 ·rw[yW q2];have Q2:=hide q2;clear q2
  go_wp2
  go_ret
  exact⟨yH (yW fun h=>Q2.out h.tables).symm,HB1.out⟩
 rw[yX q2];have Q2:=hide q2;clear q2
 by_cases q3:x.zB.length≤24
 rotate_left
 ·have Q3:=hide q3
  go_wp2
  go_ret
  exact⟨yH (yW fun h=>q3 h.few).symm,HB1.out⟩
 by_cases q4:x.zL.length≤4
 rotate_left
 ·have Q4:=hide q4
  go_wp2
  go_ret
  exact⟨yH (yW fun h=>q4 h.outs).symm,HB1.out⟩
 have Q3:=hide q3;have Q4:=hide q4
 go_wp2
 clear p0 p1 p2 p3 lb
 go_loopw [4] (fun i wr=> ∃ k:Nat,k≤x.zB.length∧i= .int .i64 k∧Upto x.zB (fun _ x_1=>NodeOk x_1 (x.zM.length:Int)∧Idx x_1.zH (x.zB.length:Int)∧(x_1.zD=1→x_1.fA<x.zK)) k∧Below w1.heap.size w1 wr) (fun i _=>x.zB.length - (intOf i).toNat)
 case atStart=>exact⟨0,Nat.zero_le _,rfl,Upto.zero,Below.refl _ _⟩
 case round=>
  obtain⟨k,hk,rfl,hs,hbw⟩:=hrel
  have HS:=hide hs;have HW:=hide hbw;have HB:=hide (yI HB1.out HB1.out.size hbw);clear hs hbw
  have p0:wr.cell? ⟨b,o,none⟩=some (.int .i64 x.zK):=(HB.out.cell HL.out).trans (HCC.out 0 _ rfl)
  have p1:wr.cell? ⟨b,o+1,none⟩=some (.slice va1 x.zM.length vc1):=(HB.out.cell HL.out).trans (HCC.out 1 _ rfl)
  have p2:wr.cell? ⟨b,o+2,none⟩=some (.slice va2 x.zB.length vc2):=(HB.out.cell HL.out).trans (HCC.out 2 _ rfl)
  have p3:wr.cell? ⟨b,o+3,none⟩=some (.slice va3 x.zL.length vc3):=(HB.out.cell HL.out).trans (HCC.out 3 _ rfl)
  have lb:b<wr.heap.size:=Nat.lt_of_lt_of_le HL.out HB.out.size
  by_cases hlt:k<x.zB.length
  rotate_left
  ·have hall:=hide (HS.out.all (by omega));clear HS
   generalize wr=w2 at *
   go_wp2
   clear p0 p1 p2 p3 lb
   have HB2:=HB;clear HB
   go_loopw [7] (fun i wr=> ∃ k:Nat,k≤x.zL.length∧i= .int .i64 k∧Upto x.zL (fun _ f=>0≤f∧f≤(x.zB.length:Int) - 1) k∧Below w2.heap.size w2 wr) (fun i _=>x.zL.length - (intOf i).toNat)
   case atStart=>exact⟨0,Nat.zero_le _,rfl,Upto.zero,Below.refl _ _⟩
   case round=>
    obtain⟨k,hk,rfl,hs,hbw⟩:=hrel
    have HS:=hide hs;have HW:=hide hbw;have HB:=hide (yI HB2.out HB2.out.size hbw);clear hs hbw
    have p0:wr.cell? ⟨b,o,none⟩=some (.int .i64 x.zK):=(HB.out.cell HL.out).trans (HCC.out 0 _ rfl)
    have p1:wr.cell? ⟨b,o+1,none⟩=some (.slice va1 x.zM.length vc1):=(HB.out.cell HL.out).trans (HCC.out 1 _ rfl)
    have p2:wr.cell? ⟨b,o+2,none⟩=some (.slice va2 x.zB.length vc2):=(HB.out.cell HL.out).trans (HCC.out 2 _ rfl)
    have p3:wr.cell? ⟨b,o+3,none⟩=some (.slice va3 x.zL.length vc3):=(HB.out.cell HL.out).trans (HCC.out 3 _ rfl)
    have lb:b<wr.heap.size:=Nat.lt_of_lt_of_le HL.out HB.out.size
    by_cases hlt:k<x.zL.length
    rotate_left
    ·have hall2:=hide (HS.out.all (by omega));clear HS
     go_wp2
     go_ret
     exact⟨yH (yX ⟨q1,Q2.out,Q3.out,Q4.out,hall2.out,hall.out⟩).symm,HB.out⟩
    have hgk:=List.getElem?_eq_getElem hlt
    obtain⟨b1,off,hA,hb1,hcell⟩:=HX3.out k x.zL[k] hgk
    subst hA
    generalize x.zL[k]=y at *
    have HG:=hide hgk;clear hgk
    have cy:=(HB.out.cell hb1).trans hcell;have hq1:b1<wr.heap.size:=Nat.lt_of_lt_of_le hb1 HB.out.size
    by_cases s1:inB y 0 ((x.zB.length:Int) - 1)=true
    rotate_left
    ·have s1':inB y 0 ((x.zB.length:Int) - 1)=false:=(by simpa using s1)
     go_wp2_with (go_at_call 87;refine(c_l00In _ _ _ _).mono ?_;rintro e w' ⟨rfl,rfl⟩)
     go_ret
     exact⟨yH (yW fun h=>s1 (yZ.2 (h.outputs k y HG.out))).symm,HB.out⟩
    go_wp2_with (go_at_call 87;refine(c_l00In _ _ _ _).mono ?_;rintro e w' ⟨rfl,rfl⟩)
    go_roundw
    case rel=>exact⟨k+1,by omega,by go_num,HS.out.step HG.out (yZ.1 s1),HW.out⟩
    case measure=>simp[intOf];omega
  have hgk:=List.getElem?_eq_getElem hlt
  obtain⟨b1,off,csy,hA,hb1,hcs,hcell⟩:=HX2.out k x.zB[k] hgk
  subst hA
  generalize x.zB[k]=y at *
  have HG:=hide hgk;clear hgk
  have HAy:=hide (T.at_elem (o:=off+k * 4) hb1 (show T.rds w y.fs csy by simpa only[GNode.t,T.rd] using hcs) hcell (by omega));clear hcs hcell
  have n1:((k:Int)<(x.zB.length:Int)):=by omega
  obtain⟨lty,csy',hry,hcy⟩:=HAy.out
  obtain⟨u3,rfl,hu3⟩:=GNode.yN hry
  have Ru3:=hide (T.yR.1 hu3);obtain⟨ua3,uc3,rfl,ul3,um3,ux3⟩:=Ru3.out.open_;have HXu3:=hide ux3;clear ux3 hu3
  have HCy:=hide hcy;clear hry hcy
  have cy0:wr.cell? ⟨b1,off+k * 4,none⟩=some (.int .i64 y.zD):=(HB.out.cell lty).trans (HCy.out 0 _ rfl)
  have cy1:wr.cell? ⟨b1,off+k * 4+1,none⟩=some (.int .i64 y.fA):=(HB.out.cell lty).trans (HCy.out 1 _ rfl)
  have cy2:wr.cell? ⟨b1,off+k * 4+2,none⟩=some (.int .i64 y.fB):=(HB.out.cell lty).trans (HCy.out 2 _ rfl)
  have cy3:wr.cell? ⟨b1,off+k * 4+3,none⟩=some (.slice ua3 y.zH.length uc3):=(HB.out.cell lty).trans (HCy.out 3 _ rfl)
  have hq1:b1<wr.heap.size:=Nat.lt_of_lt_of_le hb1 HB.out.size
  by_cases q5:NodeOk y (x.zM.length:Int)
  rotate_left
  ·have a5:=yW q5;have Q5:=hide q5;clear q5
   go_wp2
   have g0:=yF p0
   have g1:=yF p1
   have g2:=yF cy0
   have g3:=yF cy1
   refine xA (by kernel_rfl) (by kernel_rfl) ?_
   repeat(first|go_big_quiet_skip|(go_big_quiet_want;go_big_quiet_op;first|go_big_quiet_on|(apply Exists.intro;refine⟨fun _=>?_,?_⟩;(· (go_at_call 233;exact Calls.yK ((c_l06Ok y _ _ _ _ (by omega) (by omega) (T.at_below HAy.out (yI HB.out HB.out.size (yG wr _)))).mono (fun e w' h=>by(first|rw[a5] at h|skip);exact h))));go_big_quiet_on)))
   refine wpQuiet_nil ?_
   rintro w9 ⟨uu,rfl⟩
   have hb9:=yG wr uu
   generalize bel wr uu=w9 at *
   have HB9:=hide (yI HB.out HB.out.size hb9);clear g0 g1 g2 g3
   go_wp2
   go_ret
   exact⟨yH (yW fun h=>Q5.out (h.nodes k y HG.out).1).symm,HB9.out⟩
  have a5:=yX q5;have Q5:=hide q5;clear q5
  by_cases q6:y.zD=1
  rotate_left
  ·have a6:(y.zD == 1)=false:=yP q6;have Q6:=hide q6;clear q6
   go_wp2
   have g0:=yF p0
   have g1:=yF p1
   have g2:=yF cy0
   have g3:=yF cy1
   refine xA (by kernel_rfl) (by kernel_rfl) ?_
   repeat(first|go_big_quiet_skip|(go_big_quiet_want;go_big_quiet_op;first|go_big_quiet_on|(apply Exists.intro;refine⟨fun _=>?_,?_⟩;(· (go_at_call 233;exact Calls.yK ((c_l06Ok y _ _ _ _ (by omega) (by omega) (T.at_below HAy.out (yI HB.out HB.out.size (yG wr _)))).mono (fun e w' h=>by(first|rw[a5] at h|skip);exact h))));go_big_quiet_on)))
   refine wpQuiet_nil ?_
   rintro w9 ⟨uu,rfl⟩
   have hb9:=yG wr uu
   generalize bel wr uu=w9 at *
   have HB9:=hide (yI HB.out HB.out.size hb9);clear g0 g1 g2 g3
   have HW9:=hide (yI HW.out HW.out.size hb9);clear hb9
   clear p0 p1 p2 p3 lb cy0 cy1 cy2 cy3 a5
   have p0:w9.cell? ⟨b,o,none⟩=some (.int .i64 x.zK):=(HB9.out.cell HL.out).trans (HCC.out 0 _ rfl)
   have p1:w9.cell? ⟨b,o+1,none⟩=some (.slice va1 x.zM.length vc1):=(HB9.out.cell HL.out).trans (HCC.out 1 _ rfl)
   have p2:w9.cell? ⟨b,o+2,none⟩=some (.slice (some ⟨b1,off,none⟩) x.zB.length vc2):=(HB9.out.cell HL.out).trans (HCC.out 2 _ rfl)
   have p3:w9.cell? ⟨b,o+3,none⟩=some (.slice va3 x.zL.length vc3):=(HB9.out.cell HL.out).trans (HCC.out 3 _ rfl)
   have lb:b<w9.heap.size:=Nat.lt_of_lt_of_le HL.out HB9.out.size
   have cy0:w9.cell? ⟨b1,off+k * 4,none⟩=some (.int .i64 y.zD):=(HB9.out.cell lty).trans (HCy.out 0 _ rfl)
   have cy1:w9.cell? ⟨b1,off+k * 4+1,none⟩=some (.int .i64 y.fA):=(HB9.out.cell lty).trans (HCy.out 1 _ rfl)
   have cy2:w9.cell? ⟨b1,off+k * 4+2,none⟩=some (.int .i64 y.fB):=(HB9.out.cell lty).trans (HCy.out 2 _ rfl)
   have cy3:w9.cell? ⟨b1,off+k * 4+3,none⟩=some (.slice ua3 y.zH.length uc3):=(HB9.out.cell lty).trans (HCy.out 3 _ rfl)
   go_wp2
   clear p0 p1 p2 p3 lb cy0 cy1 cy2 cy3
   go_loopw [6] (fun i ws=> ∃ m:Nat,m≤y.zH.length∧i= .int .i64 m∧Upto y.zH (fun _ f=>f≤(x.zB.length:Int) - 1) m∧Below w9.heap.size w9 ws) (fun i _=>y.zH.length - (intOf i).toNat)
   case atStart=>exact⟨0,Nat.zero_le _,rfl,Upto.zero,Below.refl _ _⟩
   case round=>
    obtain⟨m,hm,rfl,hs2,hbs⟩:=hrel
    have HS2:=hide hs2;have HB4:=hide (yI HB9.out HB9.out.size hbs);have HW4:=hide (yI HW9.out HW9.out.size hbs);have HS4:=hide hbs;clear hs2 hbs
    have cy0:wr.cell? ⟨b1,off+k * 4,none⟩=some (.int .i64 y.zD):=(HB4.out.cell lty).trans (HCy.out 0 _ rfl)
    have cy1:wr.cell? ⟨b1,off+k * 4+1,none⟩=some (.int .i64 y.fA):=(HB4.out.cell lty).trans (HCy.out 1 _ rfl)
    have cy2:wr.cell? ⟨b1,off+k * 4+2,none⟩=some (.int .i64 y.fB):=(HB4.out.cell lty).trans (HCy.out 2 _ rfl)
    have cy3:wr.cell? ⟨b1,off+k * 4+3,none⟩=some (.slice ua3 y.zH.length uc3):=(HB4.out.cell lty).trans (HCy.out 3 _ rfl)
    have p0:wr.cell? ⟨b,o,none⟩=some (.int .i64 x.zK):=(HB4.out.cell HL.out).trans (HCC.out 0 _ rfl)
    have p1:wr.cell? ⟨b,o+1,none⟩=some (.slice va1 x.zM.length vc1):=(HB4.out.cell HL.out).trans (HCC.out 1 _ rfl)
    have p2:wr.cell? ⟨b,o+2,none⟩=some (.slice (some ⟨b1,off,none⟩) x.zB.length vc2):=(HB4.out.cell HL.out).trans (HCC.out 2 _ rfl)
    have p3:wr.cell? ⟨b,o+3,none⟩=some (.slice va3 x.zL.length vc3):=(HB4.out.cell HL.out).trans (HCC.out 3 _ rfl)
    have lb:b<wr.heap.size:=Nat.lt_of_lt_of_le HL.out HB4.out.size
    by_cases hltm:m<y.zH.length
    rotate_left
    ·have hall:=hide (HS2.out.all (by omega));clear HS2
     go_wp2
     go_roundw
     case rel=>exact⟨k+1,by omega,by go_num,HS.out.step HG.out ⟨Q5.out,fun i f hf=>⟨(yZ.1 (Q5.out.from_ i f hf)).1,hall.out i f hf⟩,fun h=>absurd h Q6.out⟩,HW4.out⟩
     case measure=>simp[intOf];omega
    have hgm:=List.getElem?_eq_getElem hltm
    obtain⟨b3,off3,hA,hb3,hcf⟩:=HXu3.out m y.zH[m] hgm
    subst hA
    generalize y.zH[m]=f at *
    have HF:=hide hgm;clear hgm
    have cf:=(HB4.out.cell hb3).trans hcf;have hq3:b3<wr.heap.size:=Nat.lt_of_lt_of_le hb3 HB4.out.size
    by_cases s1:(x.zB.length:Int)≤f
    ·have s1':decide ((x.zB.length:Int)≤f)=true:=decide_eq_true s1;have S1:=hide s1
     go_wp2
     go_ret
     exact⟨yH (yW fun h=>by have:=(h.nodes k y HG.out).2.1 m f HF.out;have:=S1.out;omega).symm,HB4.out⟩
    have s1':decide ((x.zB.length:Int)≤f)=false:=decide_eq_false s1
    go_wp2
    go_roundw
    case rel=>exact⟨m+1,by omega,by go_num,HS2.out.step HF.out (by omega),HS4.out⟩
    case measure=>simp[intOf];omega
  have a6:(y.zD == 1)=true:=yQ q6;have Q6:=hide q6;clear q6
  by_cases q7:x.zK≤y.fA
  ·have a7:decide (x.zK≤y.fA)=true:=decide_eq_true q7;have Q7:=hide q7
   go_wp2
   have g0:=yF p0
   have g1:=yF p1
   have g2:=yF cy0
   have g3:=yF cy1
   refine xA (by kernel_rfl) (by kernel_rfl) ?_
   repeat(first|go_big_quiet_skip|(go_big_quiet_want;go_big_quiet_op;first|go_big_quiet_on|(apply Exists.intro;refine⟨fun _=>?_,?_⟩;(· (go_at_call 233;exact Calls.yK ((c_l06Ok y _ _ _ _ (by omega) (by omega) (T.at_below HAy.out (yI HB.out HB.out.size (yG wr _)))).mono (fun e w' h=>by(first|rw[a5] at h|skip);exact h))));go_big_quiet_on)))
   refine wpQuiet_nil ?_
   rintro w9 ⟨uu,rfl⟩
   have hb9:=yG wr uu
   generalize bel wr uu=w9 at *
   have HB9:=hide (yI HB.out HB.out.size hb9);clear g0 g1 g2 g3
   go_wp2
   go_ret
   exact⟨yH (yW fun h=>by have:=(h.nodes k y HG.out).2.2 Q6.out;have:=Q7.out;omega).symm,HB9.out⟩
  have a7:decide (x.zK≤y.fA)=false:=decide_eq_false q7;have Q7:=hide q7
  go_wp2
  have g0:=yF p0
  have g1:=yF p1
  have g2:=yF cy0
  have g3:=yF cy1
  refine xA (by kernel_rfl) (by kernel_rfl) ?_
  repeat(first|go_big_quiet_skip|(go_big_quiet_want;go_big_quiet_op;first|go_big_quiet_on|(apply Exists.intro;refine⟨fun _=>?_,?_⟩;(· (go_at_call 233;exact Calls.yK ((c_l06Ok y _ _ _ _ (by omega) (by omega) (T.at_below HAy.out (yI HB.out HB.out.size (yG wr _)))).mono (fun e w' h=>by(first|rw[a5] at h|skip);exact h))));go_big_quiet_on)))
  refine wpQuiet_nil ?_
  rintro w9 ⟨uu,rfl⟩
  have hb9:=yG wr uu
  generalize bel wr uu=w9 at *
  have HB9:=hide (yI HB.out HB.out.size hb9);clear g0 g1 g2 g3
  have HW9:=hide (yI HW.out HW.out.size hb9);clear hb9
  clear p0 p1 p2 p3 lb cy0 cy1 cy2 cy3 a5
  have p0:w9.cell? ⟨b,o,none⟩=some (.int .i64 x.zK):=(HB9.out.cell HL.out).trans (HCC.out 0 _ rfl)
  have p1:w9.cell? ⟨b,o+1,none⟩=some (.slice va1 x.zM.length vc1):=(HB9.out.cell HL.out).trans (HCC.out 1 _ rfl)
  have p2:w9.cell? ⟨b,o+2,none⟩=some (.slice (some ⟨b1,off,none⟩) x.zB.length vc2):=(HB9.out.cell HL.out).trans (HCC.out 2 _ rfl)
  have p3:w9.cell? ⟨b,o+3,none⟩=some (.slice va3 x.zL.length vc3):=(HB9.out.cell HL.out).trans (HCC.out 3 _ rfl)
  have lb:b<w9.heap.size:=Nat.lt_of_lt_of_le HL.out HB9.out.size
  have cy0:w9.cell? ⟨b1,off+k * 4,none⟩=some (.int .i64 y.zD):=(HB9.out.cell lty).trans (HCy.out 0 _ rfl)
  have cy1:w9.cell? ⟨b1,off+k * 4+1,none⟩=some (.int .i64 y.fA):=(HB9.out.cell lty).trans (HCy.out 1 _ rfl)
  have cy2:w9.cell? ⟨b1,off+k * 4+2,none⟩=some (.int .i64 y.fB):=(HB9.out.cell lty).trans (HCy.out 2 _ rfl)
  have cy3:w9.cell? ⟨b1,off+k * 4+3,none⟩=some (.slice ua3 y.zH.length uc3):=(HB9.out.cell lty).trans (HCy.out 3 _ rfl)
  go_wp2
  clear p0 p1 p2 p3 lb cy0 cy1 cy2 cy3
  go_loopw [6] (fun i ws=> ∃ m:Nat,m≤y.zH.length∧i= .int .i64 m∧Upto y.zH (fun _ f=>f≤(x.zB.length:Int) - 1) m∧Below w9.heap.size w9 ws) (fun i _=>y.zH.length - (intOf i).toNat)
  case atStart=>exact⟨0,Nat.zero_le _,rfl,Upto.zero,Below.refl _ _⟩
  case round=>
   obtain⟨m,hm,rfl,hs2,hbs⟩:=hrel
   have HS2:=hide hs2;have HB4:=hide (yI HB9.out HB9.out.size hbs);have HW4:=hide (yI HW9.out HW9.out.size hbs);have HS4:=hide hbs;clear hs2 hbs
   have cy0:wr.cell? ⟨b1,off+k * 4,none⟩=some (.int .i64 y.zD):=(HB4.out.cell lty).trans (HCy.out 0 _ rfl)
   have cy1:wr.cell? ⟨b1,off+k * 4+1,none⟩=some (.int .i64 y.fA):=(HB4.out.cell lty).trans (HCy.out 1 _ rfl)
   have cy2:wr.cell? ⟨b1,off+k * 4+2,none⟩=some (.int .i64 y.fB):=(HB4.out.cell lty).trans (HCy.out 2 _ rfl)
   have cy3:wr.cell? ⟨b1,off+k * 4+3,none⟩=some (.slice ua3 y.zH.length uc3):=(HB4.out.cell lty).trans (HCy.out 3 _ rfl)
   have p0:wr.cell? ⟨b,o,none⟩=some (.int .i64 x.zK):=(HB4.out.cell HL.out).trans (HCC.out 0 _ rfl)
   have p1:wr.cell? ⟨b,o+1,none⟩=some (.slice va1 x.zM.length vc1):=(HB4.out.cell HL.out).trans (HCC.out 1 _ rfl)
   have p2:wr.cell? ⟨b,o+2,none⟩=some (.slice (some ⟨b1,off,none⟩) x.zB.length vc2):=(HB4.out.cell HL.out).trans (HCC.out 2 _ rfl)
   have p3:wr.cell? ⟨b,o+3,none⟩=some (.slice va3 x.zL.length vc3):=(HB4.out.cell HL.out).trans (HCC.out 3 _ rfl)
   have lb:b<wr.heap.size:=Nat.lt_of_lt_of_le HL.out HB4.out.size
   by_cases hltm:m<y.zH.length
   rotate_left
   ·have hall:=hide (HS2.out.all (by omega));clear HS2
    go_wp2
    go_roundw
    case rel=>exact⟨k+1,by omega,by go_num,HS.out.step HG.out ⟨Q5.out,fun i f hf=>⟨(yZ.1 (Q5.out.from_ i f hf)).1,hall.out i f hf⟩,fun _=>by have:=Q7.out;omega⟩,HW4.out⟩
    case measure=>simp[intOf];omega
   have hgm:=List.getElem?_eq_getElem hltm
   obtain⟨b3,off3,hA,hb3,hcf⟩:=HXu3.out m y.zH[m] hgm
   subst hA
   generalize y.zH[m]=f at *
   have HF:=hide hgm;clear hgm
   have cf:=(HB4.out.cell hb3).trans hcf;have hq3:b3<wr.heap.size:=Nat.lt_of_lt_of_le hb3 HB4.out.size
   by_cases s1:(x.zB.length:Int)≤f
   ·have s1':decide ((x.zB.length:Int)≤f)=true:=decide_eq_true s1;have S1:=hide s1
    go_wp2
    go_ret
    exact⟨yH (yW fun h=>by have:=(h.nodes k y HG.out).2.1 m f HF.out;have:=S1.out;omega).symm,HB4.out⟩
   have s1':decide ((x.zB.length:Int)≤f)=false:=decide_eq_false s1
   go_wp2
   go_roundw
   case rel=>exact⟨m+1,by omega,by go_num,HS2.out.step HF.out (by omega),HS4.out⟩
   case measure=>simp[intOf];omega
end Go.Proofs.YtoibekfhepnedaaGreat
