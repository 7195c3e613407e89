/- Contracts: valid caches, both sides. -/
import Derived.Test.YtoibekfhepnedaaGreatQAsExactSoundCache
import Derived.Test.YtoibekfhepnedaaGreatQAtExactSoundCache
set_option linter.unusedVariables false
set_option linter.unusedSimpArgs false
set_option maxHeartbeats 2000000
set_option maxRecDepth 20000
namespace Go.Proofs.YtoibekfhepnedaaGreat
open Go.RowKit
theorem c_l00Rises (v:Value) (xs:List Int) (lo hi:Int) (w:World) (hr:RdI w v xs):Calls Tryz.prog 130 #[v,.int .i64 lo,.int .i64 hi] w fun e w'=>e= .returned (.bool (tf (Each xs (fun i x=>inB x lo hi=true∧ ∀ p,0<i→xs[i - 1]?=some p→p<x))))∧Below w.heap.size w w':=by
 obtain⟨A,cap,rfl,hl,hc,hx⟩:=hr.open_
 have HX:=hide hx;clear hx hr
 go_enter Tryz.func130,Tryz.ntmps130
 go_wp2
 go_loopw [7] (fun i wr=> ∃ k:Nat,k≤xs.length∧i= .int .i64 k∧Upto xs (fun i x=>inB x lo hi=true∧ ∀ p,0<i→xs[i - 1]?=some p→p<x) k∧Below w.heap.size w wr) (fun i _=>xs.length - (intOf i).toNat)
 case atStart=>exact⟨0,Nat.zero_le _,rfl,Upto.zero,Below.refl _ _⟩
 case round=>
  obtain⟨k,hk,rfl,hs,hbw⟩:=hrel
  have HS:=hide hs;have HB:=hide hbw;clear hs hbw
  by_cases hlt:k<xs.length
  rotate_left
  ·have hall:=hide (HS.out.all (by omega));clear HS
   go_wp2
   go_ret
   exact⟨yH (yX hall.out).symm,HB.out⟩
  have hgk:=List.getElem?_eq_getElem hlt
  obtain⟨b,off,rfl,hb,hcell⟩:=HX.out k xs[k] hgk
  generalize xs[k]=y at *
  have HG:=hide hgk;clear hgk
  have cy:=(HB.out.cell hb).trans hcell
  have n1:((k:Int)<(xs.length:Int)):=by omega
  have g0:=yF cy
  by_cases hk0:k=0
  ·have d0:decide (0<k)=false:=decide_eq_false (by omega)
   have K0:=hide hk0;clear hk0
   cases q1:inB y lo hi
   all_goals
    go_wp2
    refine xA (by kernel_rfl) (by kernel_rfl) ?_
    repeat(first|go_big_quiet_skip|(go_big_quiet_want;go_big_quiet_op;first|go_big_quiet_on|(apply Exists.intro;refine⟨fun _=>?_,?_⟩;(· ((go_at_call 87;exact Calls.yJ ((c_l00In _ _ _ _).mono (fun e w' h=>by(first|rw[q1] at h|skip);exact h)))));go_big_quiet_on)))
    refine wpQuiet_nil ?_
    rintro w9 ⟨uu,rfl⟩
    have hb9:=yG wr uu
    generalize bel wr uu=w9 at *
    have HB9:=hide (yI HB.out HB.out.size hb9);clear hb9
    go_wp2
   ·go_ret
    exact⟨yH (yW fun h=>by have h1:=(h k y HG.out).1;rw[q1] at h1;exact absurd h1 (by simp)).symm,HB9.out⟩
   ·go_roundw
    case rel=>exact⟨k+1,by omega,by go_num,HS.out.step HG.out ⟨q1,fun p h=>by have:=K0.out;omega⟩,HB9.out⟩
    case measure=>simp[intOf];omega
  obtain⟨j,rfl⟩: ∃ j,k=j+1:=⟨k - 1,by omega⟩
  have hltj:j<xs.length:=by omega
  have hgj:=List.getElem?_eq_getElem hltj
  obtain⟨b2,off2,hA,hb2,hcell2⟩:=HX.out j xs[j] hgj
  obtain⟨rfl,rfl⟩:b=b2∧off=off2:=by injection hA with hA;injection hA with e1 e2;exact⟨e1,e2⟩
  generalize xs[j]=z at *
  have HJ:=hide hgj;clear hgj hA
  have cz:=(HB.out.cell hb2).trans hcell2
  have g1:=yF cz
  have e1:IntKind.i64.wrap ((j:Int)+1 - 1)=(j:Int):=by rw[IntWalk.i64_in _ (by omega)];omega
  have e2:IntKind.i64.wrap (j:Int)=(j:Int):=IntWalk.i64_in _ (by omega)
  have n0:(0:Int)≤(j:Int):=by omega
  have n2:((j:Int)<(xs.length:Int)):=by omega
  have n3:((j:Int)+1<(xs.length:Int)):=by omega
  have n4:(0:Int)≤(j:Int)+1:=by omega
  cases q1:inB y lo hi
  ·go_wp2
   refine xA (by kernel_rfl) (by kernel_rfl) ?_
   repeat(first|go_big_quiet_skip|(go_big_quiet_want;go_big_quiet_op;first|go_big_quiet_on|(apply Exists.intro;refine⟨fun _=>?_,?_⟩;(· ((go_at_call 87;exact Calls.yJ ((c_l00In _ _ _ _).mono (fun e w' h=>by(first|rw[q1] at h|skip);exact h)))));go_big_quiet_on)))
   refine wpQuiet_nil ?_
   rintro w9 ⟨uu,rfl⟩
   have hb9:=yG wr uu
   generalize bel wr uu=w9 at *
   have HB9:=hide (yI HB.out HB.out.size hb9);clear hb9
   go_wp2
   go_ret
   exact⟨yH (yW fun h=>by have h1:=(h (j+1) y HG.out).1;rw[q1] at h1;exact absurd h1 (by simp)).symm,HB9.out⟩
  by_cases q2:y≤z
  ·have d2:decide (y≤z)=true:=decide_eq_true q2
   have Q2:=hide q2
   go_wp2
   refine xA (by kernel_rfl) (by kernel_rfl) ?_
   repeat(first|go_big_quiet_skip|(go_big_quiet_want;go_big_quiet_op;first|go_big_quiet_on|(apply Exists.intro;refine⟨fun _=>?_,?_⟩;(· ((go_at_call 87;exact Calls.yJ ((c_l00In _ _ _ _).mono (fun e w' h=>by(first|rw[q1] at h|skip);exact h)))));go_big_quiet_on)))
   refine wpQuiet_nil ?_
   rintro w9 ⟨uu,rfl⟩
   have hb9:=yG wr uu
   generalize bel wr uu=w9 at *
   have HB9:=hide (yI HB.out HB.out.size hb9);clear hb9
   go_wp2
   go_ret
   exact⟨yH (yW fun h=>by have h1:=(h (j+1) y HG.out).2 z (by omega) HJ.out;have:=Q2.out;omega).symm,HB9.out⟩
  have d2:decide (y≤z)=false:=decide_eq_false q2
  go_wp2
  refine xA (by kernel_rfl) (by kernel_rfl) ?_
  repeat(first|go_big_quiet_skip|(go_big_quiet_want;go_big_quiet_op;first|go_big_quiet_on|(apply Exists.intro;refine⟨fun _=>?_,?_⟩;(· ((go_at_call 87;exact Calls.yJ ((c_l00In _ _ _ _).mono (fun e w' h=>by(first|rw[q1] at h|skip);exact h)))));go_big_quiet_on)))
  refine wpQuiet_nil ?_
  rintro w9 ⟨uu,rfl⟩
  have hb9:=yG wr uu
  generalize bel wr uu=w9 at *
  have HB9:=hide (yI HB.out HB.out.size hb9);clear hb9
  go_wp2
  go_roundw
  case rel=>exact⟨j+1+1,by omega,by go_num,HS.out.step HG.out ⟨q1,fun p _ hp=>by rw[Nat.add_sub_cancel,HJ.out] at hp;injection hp with hp;subst hp;omega⟩,HB9.out⟩
  case measure=>simp[intOf];omega
theorem c_l31Blocks (n:Int) (w:World) (h0:0≤n) (h1:n≤1000):Calls Tryz.prog 88 #[.int .i64 n] w fun e w'=>e= .returned (.int .i64 (blocksF n))∧w=w':=by
 go_enter Tryz.func88,Tryz.ntmps88
 go_wp2
 go_ret
 exact⟨ret_int (by unfold blocksF;omega),rfl⟩
theorem c_iBlocks (x:GSession) (cs:List Value) (w:World) (h0:0≤x.zG) (h1:x.zG≤1000) (h:T.rds w x.fs cs):Calls Tryz.prog 90 #[.agg cs.toArray] w fun e w'=>e= .returned (.int .i64 (blocksF x.zG))∧Below w.heap.size w w':=by
 obtain⟨v1,v2,v3,v4,v5,rfl,h1,h2,h3,h4,h5⟩:=GSession.yN h
 clear h
 have R1:=hide h1;obtain⟨va1,vc1,rfl,vl1,vm1,vx1⟩:=T.yM h1
 have HX1:=hide vx1;clear vx1 h1
 have R2:=hide h2;obtain⟨va2,vc2,rfl,vl2,vm2,vx2⟩:=T.yM h2
 have HX2:=hide vx2;clear vx2 h2
 have h3i:=T.yR.1 h3;obtain⟨va3,vc3,rfl,vl3,vm3,vx3⟩:=h3i.open_
 have R3:=hide h3i;have HX3:=hide vx3;clear vx3 h3 h3i
 have R4:=hide h4;obtain⟨va4,vc4,rfl,vl4,vm4,vx4⟩:=T.yM h4
 have HX4:=hide vx4;clear vx4 h4
 have R5:=hide h5;obtain⟨va5,vc5,rfl,vl5,vm5,vx5⟩:=T.yM h5
 have HX5:=hide vx5;clear vx5 h5
 have HB0:=hide (show Below w.heap.size w (w.alloc (.cells #[.int .i64 x.zG,(.slice va1 x.zN.length vc1),(.slice va2 x.zO.length vc2),(.slice va3 x.zS.length vc3),(.slice va4 x.zP.length vc4),(.slice va5 x.zF.zC.length vc5)] 32)) from(Below.refl _ _).alloc (Nat.le_refl _) _)
 have HK0:=hide (Bk.born w 32 #[.int .i64 x.zG,(.slice va1 x.zN.length vc1),(.slice va2 x.zO.length vc2),(.slice va3 x.zS.length vc3),(.slice va4 x.zP.length vc4),(.slice va5 x.zF.zC.length vc5)])
 go_enter Tryz.func90,Tryz.ntmps90
 go_wp2
 go_ret
 exact⟨ret_int (by unfold blocksF;omega),HB0.out⟩
theorem c_l31Cache (x:GCache) (b o:Nat) (w:World) (hs:x.zE.small) (h:T.at w x.fs b o):Calls Tryz.prog 57 #[.pointer (some ⟨b,o,none⟩)] w fun e w'=>e= .returned (.bool (tf (CacheOk x)))∧Below w.heap.size w w':=by
 have HAT:=hide h
 obtain⟨hlt0,cs,hr,hc⟩:=h
 obtain⟨v1,v2,v3,v4,v5,v6,v7,rfl,h1,h2,h3,h4,h5,h6,h7⟩:=GCache.yN hr
 clear hr
 have R1:=hide h1;obtain⟨va1,vc1,rfl,vl1,vm1,vx1⟩:=T.yM h1
 have HX1:=hide vx1;clear vx1 h1
 have R2:=hide h2;obtain⟨va2,vc2,rfl,vl2,vm2,vx2⟩:=T.yM h2
 have HX2:=hide vx2;clear vx2 h2
 have h3i:=T.yR.1 h3;obtain⟨va3,vc3,rfl,vl3,vm3,vx3⟩:=h3i.open_
 have R3:=hide h3i;have HX3:=hide vx3;clear vx3 h3 h3i
 have R4:=hide h4;obtain⟨va4,vc4,rfl,vl4,vm4,vx4⟩:=T.yM h4
 have HX4:=hide vx4;clear vx4 h4
 have R5:=hide h5;obtain⟨va5,vc5,rfl,vl5,vm5,vx5⟩:=T.yM h5
 have HX5:=hide vx5;clear vx5 h5
 have h6i:=T.yR.1 h6;obtain⟨va6,vc6,rfl,vl6,vm6,vx6⟩:=h6i.open_
 have R6:=hide h6i;have HX6:=hide vx6;clear vx6 h6 h6i
 have h7i:=T.yR.1 h7;obtain⟨va7,vc7,rfl,vl7,vm7,vx7⟩:=h7i.open_
 have R7:=hide h7i;have HX7:=hide vx7;clear vx7 h7 h7i
 have HL:=hide hlt0;have HCC:=hide hc;have HB0:=hide (Below.refl w.heap.size w);clear hlt0 hc
 have HATS:=hide (show T.at w x.zE.fs b o from T.at_sub [] [.int .i64 x.zE.zG,(.slice va1 x.zE.zN.length vc1),(.slice va2 x.zE.zO.length vc2),(.slice va3 x.zE.zS.length vc3),(.slice va4 x.zE.zP.length vc4),(.slice va5 x.zE.zF.zC.length vc5)] [(.slice va6 x.zY.length vc6),(.slice va7 x.zW.length vc7)] HL.out HCC.out (GSession.rd_mk R1.out R2.out (T.yR.2 R3.out) R4.out R5.out))
 have HSM:=hide hs;clear hs
 have p0:w.cell? ⟨b,o,none⟩=some (.int .i64 x.zE.zG):=(HB0.out.cell HL.out).trans (HCC.out 0 _ rfl)
 have p1:w.cell? ⟨b,o+1,none⟩=some (.slice va1 x.zE.zN.length vc1):=(HB0.out.cell HL.out).trans (HCC.out 1 _ rfl)
 have p2:w.cell? ⟨b,o+2,none⟩=some (.slice va2 x.zE.zO.length vc2):=(HB0.out.cell HL.out).trans (HCC.out 2 _ rfl)
 have p3:w.cell? ⟨b,o+3,none⟩=some (.slice va3 x.zE.zS.length vc3):=(HB0.out.cell HL.out).trans (HCC.out 3 _ rfl)
 have p4:w.cell? ⟨b,o+4,none⟩=some (.slice va4 x.zE.zP.length vc4):=(HB0.out.cell HL.out).trans (HCC.out 4 _ rfl)
 have p5:w.cell? ⟨b,o+5,none⟩=some (.slice va5 x.zE.zF.zC.length vc5):=(HB0.out.cell HL.out).trans (HCC.out 5 _ rfl)
 have p6:w.cell? ⟨b,o+6,none⟩=some (.slice va6 x.zY.length vc6):=(HB0.out.cell HL.out).trans (HCC.out 6 _ rfl)
 have p7:w.cell? ⟨b,o+7,none⟩=some (.slice va7 x.zW.length vc7):=(HB0.out.cell HL.out).trans (HCC.out 7 _ rfl)
 have lb:b<w.heap.size:=Nat.lt_of_lt_of_le HL.out HB0.out.size
 go_enter Tryz.func57,Tryz.ntmps57
 go_wp2
 by_cases q1:SessionOk x.zE
 rotate_left
 ·have a1:=yW q1;have Q1:=hide q1;clear q1
  have g0:=yF p0
  have g1:=yF p6
  have g2:=yF p7
  refine xA (by kernel_rfl) (by kernel_rfl) ?_
  repeat(first|go_big_quiet_skip|(go_big_quiet_want;go_big_quiet_op;first|go_big_quiet_on|(apply Exists.intro;refine⟨fun _=>?_,?_⟩;(· ((go_at_call 54;exact Calls.yK ((c_l27Ok x.zE _ _ _ HSM.out (T.at_below HATS.out (yG w _))).mono (fun e w' h=>by(first|rw[a1] at h|skip);exact h)))));go_big_quiet_on)))
  refine wpQuiet_nil ?_
  rintro w9 ⟨uu,rfl⟩
  have hb9:=yG w uu
  generalize bel w uu=w9 at *
  have HB9:=hide (yI HB0.out HB0.out.size hb9);clear g0 g1 g2
  go_wp2
  go_ret
  exact⟨yH (yW fun h=>Q1.out h.session).symm,HB9.out⟩
 have a1:=yX q1;have Q1:=hide q1;clear q1
 have i1:=yZ.1 Q1.out.length
 cases q2:sigB x.zY
 ·have hneg:=hide (show CacheOk x→False from fun h=>by
   have h1:=h.length;have h2:=h.mix
   have h3:sigB x.zY=true:=by unfold sigB;rw[h2];simp;omega
   rw[q2] at h3
   exact absurd h3 (by simp))
  have g0:=yF p0
  have g1:=yF p6
  have g2:=yF p7
  refine xA (by kernel_rfl) (by kernel_rfl) ?_
  repeat(first|go_big_quiet_skip|(go_big_quiet_want;go_big_quiet_op;first|go_big_quiet_on|(apply Exists.intro;refine⟨fun _=>?_,?_⟩;(· (first|(go_at_call 54;exact Calls.yK ((c_l27Ok x.zE _ _ _ HSM.out (T.at_below HATS.out (yG w _))).mono (fun e w' h=>by(first|rw[a1] at h|skip);exact h)))|(go_at_call 123;exact Calls.yJ ((c_l03Ok _ x.zY _ (Rd.below R6.out (yG w _))).mono (fun e w' h=>by(first|rw[q2] at h|skip);exact h)))));go_big_quiet_on)))
  refine wpQuiet_nil ?_
  rintro w9 ⟨uu,rfl⟩
  have hb9:=yG w uu
  generalize bel w uu=w9 at *
  have HB9:=hide (yI HB0.out HB0.out.size hb9);clear g0 g1 g2
  go_wp2
  go_ret
  exact⟨yH (yW fun h=>hneg.out h).symm,HB9.out⟩
 have hsm:=hide (show smpB x.zY=true by unfold sigB at q2;simp at q2;exact q2.2)
 by_cases q3:(x.zY.length:Int)=x.zE.zG
 rotate_left
 ·have b3:((x.zY.length:Int) == x.zE.zG)=false:=yP q3;have Q3:=hide q3;clear q3
  have g0:=yF p0
  have g1:=yF p6
  have g2:=yF p7
  refine xA (by kernel_rfl) (by kernel_rfl) ?_
  repeat(first|go_big_quiet_skip|(go_big_quiet_want;go_big_quiet_op;first|go_big_quiet_on|(apply Exists.intro;refine⟨fun _=>?_,?_⟩;(· (first|(go_at_call 54;exact Calls.yK ((c_l27Ok x.zE _ _ _ HSM.out (T.at_below HATS.out (yG w _))).mono (fun e w' h=>by(first|rw[a1] at h|skip);exact h)))|(go_at_call 123;exact Calls.yJ ((c_l03Ok _ x.zY _ (Rd.below R6.out (yG w _))).mono (fun e w' h=>by(first|rw[q2] at h|skip);exact h)))));go_big_quiet_on)))
  refine wpQuiet_nil ?_
  rintro w9 ⟨uu,rfl⟩
  have hb9:=yG w uu
  generalize bel w uu=w9 at *
  have HB9:=hide (yI HB0.out HB0.out.size hb9);clear g0 g1 g2
  go_wp2
  go_ret
  exact⟨yH (yW fun h=>Q3.out h.length).symm,HB9.out⟩
 have b3:((x.zY.length:Int) == x.zE.zG)=true:=yQ q3;have Q3:=hide q3;clear q3
 have e5:IntKind.i64.wrap (blocksF x.zE.zG - 1)=blocksF x.zE.zG - 1:=IntWalk.i64_in _ (by unfold blocksF;omega)
 by_cases q4:Each x.zW (fun i x_1=>inB x_1 0 (blocksF x.zE.zG - 1)=true∧ ∀ p,0<i→x.zW[i - 1]?=some p→p<x_1)
 rotate_left
 ·have a4:=yW q4;have Q4:=hide q4;clear q4
  have g0:=yF p0
  have g1:=yF p6
  have g2:=yF p7
  refine xA (by kernel_rfl) (by kernel_rfl) ?_
  repeat(first|go_big_quiet_skip|(go_big_quiet_want;go_big_quiet_op;first|go_big_quiet_on|(apply Exists.intro;refine⟨fun _=>?_,?_⟩;(· (first|(go_at_call 54;exact Calls.yK ((c_l27Ok x.zE _ _ _ HSM.out (T.at_below HATS.out (yG w _))).mono (fun e w' h=>by(first|rw[a1] at h|skip);exact h)))|(go_at_call 123;exact Calls.yJ ((c_l03Ok _ x.zY _ (Rd.below R6.out (yG w _))).mono (fun e w' h=>by(first|rw[q2] at h|skip);exact h)))|(go_at_call 88;exact Calls.yJ (c_l31Blocks _ _ i1.1 i1.2))|(go_at_call 130;exact Calls.yK ((c_l00Rises _ x.zW _ _ _ (Rd.below R7.out (yG w _))).mono (fun e w' h=>by(first|rw[a4] at h|skip);exact h)))));go_big_quiet_on)))
  refine wpQuiet_nil ?_
  rintro w9 ⟨uu,rfl⟩
  have hb9:=yG w uu
  generalize bel w uu=w9 at *
  have HB9:=hide (yI HB0.out HB0.out.size hb9);clear g0 g1 g2
  go_wp2
  go_ret
  exact⟨yH (yW fun h=>Q4.out (fun i d hd=>⟨yZ.2 (h.dirty i d hd).1,(h.dirty i d hd).2⟩)).symm,HB9.out⟩
 have a4:=yX q4;have Q4:=hide q4;clear q4
 have g0:=yF p0
 have g1:=yF p6
 have g2:=yF p7
 refine xA (by kernel_rfl) (by kernel_rfl) ?_
 repeat(first|go_big_quiet_skip|(go_big_quiet_want;go_big_quiet_op;first|go_big_quiet_on|(apply Exists.intro;refine⟨fun _=>?_,?_⟩;(· (first|(go_at_call 54;exact Calls.yK ((c_l27Ok x.zE _ _ _ HSM.out (T.at_below HATS.out (yG w _))).mono (fun e w' h=>by(first|rw[a1] at h|skip);exact h)))|(go_at_call 123;exact Calls.yJ ((c_l03Ok _ x.zY _ (Rd.below R6.out (yG w _))).mono (fun e w' h=>by(first|rw[q2] at h|skip);exact h)))|(go_at_call 88;exact Calls.yJ (c_l31Blocks _ _ i1.1 i1.2))|(go_at_call 130;exact Calls.yK ((c_l00Rises _ x.zW _ _ _ (Rd.below R7.out (yG w _))).mono (fun e w' h=>by(first|rw[a4] at h|skip);exact h)))));go_big_quiet_on)))
 refine wpQuiet_nil ?_
 rintro w9 ⟨uu,rfl⟩
 have hb9:=yG w uu
 generalize bel w uu=w9 at *
 have HB9:=hide (yI HB0.out HB0.out.size hb9);clear g0 g1 g2
 go_wp2
 go_ret
 exact⟨yH (yX ⟨Q1.out,Q3.out,hsm.out,fun i d hd=>⟨yZ.1 (Q4.out i d hd).1,(Q4.out i d hd).2⟩⟩).symm,HB9.out⟩
theorem c_isCache (x:GCache) (cs:List Value) (w:World) (hs:x.zE.small) (h:T.rds w x.fs cs):Calls Tryz.prog 60 #[.agg cs.toArray] w fun e w'=>e= .returned (.bool (tf (CacheOk x)))∧Below w.heap.size w w':=by
 obtain⟨v1,v2,v3,v4,v5,v6,v7,rfl,h1,h2,h3,h4,h5,h6,h7⟩:=GCache.yN h
 clear h
 have R1:=hide h1;obtain⟨va1,vc1,rfl,vl1,vm1,vx1⟩:=T.yM h1
 have HX1:=hide vx1;clear vx1 h1
 have R2:=hide h2;obtain⟨va2,vc2,rfl,vl2,vm2,vx2⟩:=T.yM h2
 have HX2:=hide vx2;clear vx2 h2
 have h3i:=T.yR.1 h3;obtain⟨va3,vc3,rfl,vl3,vm3,vx3⟩:=h3i.open_
 have R3:=hide h3i;have HX3:=hide vx3;clear vx3 h3 h3i
 have R4:=hide h4;obtain⟨va4,vc4,rfl,vl4,vm4,vx4⟩:=T.yM h4
 have HX4:=hide vx4;clear vx4 h4
 have R5:=hide h5;obtain⟨va5,vc5,rfl,vl5,vm5,vx5⟩:=T.yM h5
 have HX5:=hide vx5;clear vx5 h5
 have h6i:=T.yR.1 h6;obtain⟨va6,vc6,rfl,vl6,vm6,vx6⟩:=h6i.open_
 have R6:=hide h6i;have HX6:=hide vx6;clear vx6 h6 h6i
 have h7i:=T.yR.1 h7;obtain⟨va7,vc7,rfl,vl7,vm7,vx7⟩:=h7i.open_
 have R7:=hide h7i;have HX7:=hide vx7;clear vx7 h7 h7i
 have HB0:=hide (show Below w.heap.size w (w.alloc (.cells #[.int .i64 x.zE.zG,(.slice va1 x.zE.zN.length vc1),(.slice va2 x.zE.zO.length vc2),(.slice va3 x.zE.zS.length vc3),(.slice va4 x.zE.zP.length vc4),(.slice va5 x.zE.zF.zC.length vc5),(.slice va6 x.zY.length vc6),(.slice va7 x.zW.length vc7)] 65)) from(Below.refl _ _).alloc (Nat.le_refl _) _)
 have HK0:=hide (Bk.born w 65 #[.int .i64 x.zE.zG,(.slice va1 x.zE.zN.length vc1),(.slice va2 x.zE.zO.length vc2),(.slice va3 x.zE.zS.length vc3),(.slice va4 x.zE.zP.length vc4),(.slice va5 x.zE.zF.zC.length vc5),(.slice va6 x.zY.length vc6),(.slice va7 x.zW.length vc7)])
 have HSM:=hide hs;clear hs
 go_enter Tryz.func60,Tryz.ntmps60
 go_wp2
 generalize (w.alloc (.cells #[.int .i64 x.zE.zG,(.slice va1 x.zE.zN.length vc1),(.slice va2 x.zE.zO.length vc2),(.slice va3 x.zE.zS.length vc3),(.slice va4 x.zE.zP.length vc4),(.slice va5 x.zE.zF.zC.length vc5),(.slice va6 x.zY.length vc6),(.slice va7 x.zW.length vc7)] 65))=W at *
 have g0:=xB HK0.out;have lW:=HK0.out.lt
 have HRW:=hide (fun u=>GSession.rd_mk (T.yE R1.out (yI HB0.out HB0.out.size (yG W u))) (T.yE R2.out (yI HB0.out HB0.out.size (yG W u))) (T.yR.2 (Rd.below R3.out (yI HB0.out HB0.out.size (yG W u)))) (T.yE R4.out (yI HB0.out HB0.out.size (yG W u))) (T.yE R5.out (yI HB0.out HB0.out.size (yG W u))))
 by_cases q1:SessionOk x.zE
 rotate_left
 ·have a1:=yW q1;have Q1:=hide q1;clear q1
  refine xA (by kernel_rfl) (by kernel_rfl) ?_
  repeat(first|go_big_quiet_skip|(go_big_quiet_want;go_big_quiet_op;first|go_big_quiet_on|(apply Exists.intro;refine⟨fun _=>?_,?_⟩;(· (first|(go_at_call 44;exact Calls.yK ((c_isSession x.zE _ _ HSM.out (HRW.out _)).mono (fun e w' h=>by(first|rw[a1] at h|skip);exact h)))));go_big_quiet_on)))
  refine wpQuiet_nil ?_
  rintro w9 ⟨uu,rfl⟩
  have hb9:=yG W uu
  generalize bel W uu=w9 at *
  have HB9:=hide (yI HB0.out HB0.out.size hb9)
  go_wp2
  go_ret
  exact⟨yH (yW fun h=>Q1.out h.session).symm,HB9.out⟩
 have a1:=yX q1;have Q1:=hide q1;clear q1
 have i1:=yZ.1 Q1.out.length
 by_cases q3:(x.zY.length:Int)=x.zE.zG
 rotate_left
 ·have b3:((x.zY.length:Int) != x.zE.zG)=true:=bneI_t q3;have Q3:=hide q3;clear q3
  refine xA (by kernel_rfl) (by kernel_rfl) ?_
  repeat(first|go_big_quiet_skip|(go_big_quiet_want;go_big_quiet_op;first|go_big_quiet_on|(apply Exists.intro;refine⟨fun _=>?_,?_⟩;(· (first|(go_at_call 44;exact Calls.yK ((c_isSession x.zE _ _ HSM.out (HRW.out _)).mono (fun e w' h=>by(first|rw[a1] at h|skip);exact h)))|(go_at_call 86;exact Calls.yJ (c_size _ x.zY _ (Rd.below R6.out (yI HB0.out HB0.out.size (yG W _)))))));go_big_quiet_on)))
  refine wpQuiet_nil ?_
  rintro w9 ⟨uu,rfl⟩
  have hb9:=yG W uu
  generalize bel W uu=w9 at *
  have HB9:=hide (yI HB0.out HB0.out.size hb9)
  go_wp2
  go_ret
  exact⟨yH (yW fun h=>Q3.out h.length).symm,HB9.out⟩
 have b3:((x.zY.length:Int) != x.zE.zG)=false:=bneI_f q3;have Q3:=hide q3;clear q3
 cases q2:smpB x.zY
 ·skip
  refine xA (by kernel_rfl) (by kernel_rfl) ?_
  repeat(first|go_big_quiet_skip|(go_big_quiet_want;go_big_quiet_op;first|go_big_quiet_on|(apply Exists.intro;refine⟨fun _=>?_,?_⟩;(· (first|(go_at_call 44;exact Calls.yK ((c_isSession x.zE _ _ HSM.out (HRW.out _)).mono (fun e w' h=>by(first|rw[a1] at h|skip);exact h)))|(go_at_call 86;exact Calls.yJ (c_size _ x.zY _ (Rd.below R6.out (yI HB0.out HB0.out.size (yG W _)))))|(go_at_call 131;exact Calls.yJ ((c_areSamples _ x.zY _ (Rd.below R6.out (yI HB0.out HB0.out.size (yG W _)))).mono (fun e w' h=>by(first|rw[q2] at h|skip);exact h)))));go_big_quiet_on)))
  refine wpQuiet_nil ?_
  rintro w9 ⟨uu,rfl⟩
  have hb9:=yG W uu
  generalize bel W uu=w9 at *
  have HB9:=hide (yI HB0.out HB0.out.size hb9)
  go_wp2
  go_ret
  exact⟨yH (yW fun h=>by have h1:=h.mix;rw[q2] at h1;exact absurd h1 (by simp)).symm,HB9.out⟩
 have bl:0≤blocksF x.zE.zG∧blocksF x.zE.zG≤9223372036854775807:=by unfold blocksF;omega
 by_cases q4:Idx x.zW (blocksF x.zE.zG)
 rotate_left
 ·have a4:=yW q4;have Q4:=hide q4;clear q4
  refine xA (by kernel_rfl) (by kernel_rfl) ?_
  repeat(first|go_big_quiet_skip|(go_big_quiet_want;go_big_quiet_op;first|go_big_quiet_on|(apply Exists.intro;refine⟨fun _=>?_,?_⟩;(· (first|(go_at_call 44;exact Calls.yK ((c_isSession x.zE _ _ HSM.out (HRW.out _)).mono (fun e w' h=>by(first|rw[a1] at h|skip);exact h)))|(go_at_call 86;exact Calls.yJ (c_size _ x.zY _ (Rd.below R6.out (yI HB0.out HB0.out.size (yG W _)))))|(go_at_call 131;exact Calls.yJ ((c_areSamples _ x.zY _ (Rd.below R6.out (yI HB0.out HB0.out.size (yG W _)))).mono (fun e w' h=>by(first|rw[q2] at h|skip);exact h)))|(go_at_call 90;exact Calls.yK (c_iBlocks x.zE _ _ i1.1 i1.2 (HRW.out _)))|(go_at_call 105;exact Calls.yJ ((c_areIndices _ x.zW _ _ (Rd.below R7.out (yI HB0.out HB0.out.size (yG W _))) bl.1 bl.2).mono (fun e w' h=>by(first|rw[a4] at h|skip);exact h)))));go_big_quiet_on)))
  refine wpQuiet_nil ?_
  rintro w9 ⟨uu,rfl⟩
  have hb9:=yG W uu
  generalize bel W uu=w9 at *
  have HB9:=hide (yI HB0.out HB0.out.size hb9)
  go_wp2
  go_ret
  exact⟨yH (yW fun h=>Q4.out (fun i d hd=>(h.dirty i d hd).1)).symm,HB9.out⟩
 have a4:=yX q4;have Q4:=hide q4;clear q4
 refine xA (by kernel_rfl) (by kernel_rfl) ?_
 repeat(first|go_big_quiet_skip|(go_big_quiet_want;go_big_quiet_op;first|go_big_quiet_on|(apply Exists.intro;refine⟨fun _=>?_,?_⟩;(· (first|(go_at_call 44;exact Calls.yK ((c_isSession x.zE _ _ HSM.out (HRW.out _)).mono (fun e w' h=>by(first|rw[a1] at h|skip);exact h)))|(go_at_call 86;exact Calls.yJ (c_size _ x.zY _ (Rd.below R6.out (yI HB0.out HB0.out.size (yG W _)))))|(go_at_call 131;exact Calls.yJ ((c_areSamples _ x.zY _ (Rd.below R6.out (yI HB0.out HB0.out.size (yG W _)))).mono (fun e w' h=>by(first|rw[q2] at h|skip);exact h)))|(go_at_call 90;exact Calls.yK (c_iBlocks x.zE _ _ i1.1 i1.2 (HRW.out _)))|(go_at_call 105;exact Calls.yJ ((c_areIndices _ x.zW _ _ (Rd.below R7.out (yI HB0.out HB0.out.size (yG W _))) bl.1 bl.2).mono (fun e w' h=>by(first|rw[a4] at h|skip);exact h)))));go_big_quiet_on)))
 refine wpQuiet_nil ?_
 rintro w9 ⟨uu,rfl⟩
 have hb9:=yG W uu
 generalize bel W uu=w9 at *
 have HB9:=hide (yI HB0.out HB0.out.size hb9)
 have HK9:=hide (HK0.out.below hb9 HK0.out.lt);clear hb9 g0 a1 a4 b3 bl lW
 have ka:=HK9.out.cell;have la:=HK9.out.lt
 go_wp2
 clear ka la
 go_loopw [3] (fun i wr=> ∃ k:Nat,1≤k∧k≤x.zW.length+1∧i= .int .i64 k∧(∀ j d p,0<j→j<k→x.zW[j]?=some d→x.zW[j - 1]?=some p→p<d)∧Below w9.heap.size w9 wr) (fun i _=>x.zW.length+1 - (intOf i).toNat)
 case atStart=>exact⟨1,by omega,by omega,rfl,fun j d p h1 h2=>by omega,Below.refl _ _⟩
 case round=>
  obtain⟨k,hk1,hk,rfl,hs,hbw⟩:=hrel
  have HS:=hide hs;have HW:=hide hbw;have HB:=hide (yI HB9.out HB9.out.size hbw);have HK:=hide (HK9.out.below hbw HK9.out.lt);clear hs hbw
  have ka:=HK.out.cell;have la:=HK.out.lt
  by_cases hlt:k<x.zW.length
  rotate_left
  ·go_wp2
   go_ret
   exact⟨yH (yX ⟨Q1.out,Q3.out,q2,fun i d hd=>⟨Q4.out i d hd,fun p h0 hp=>HS.out i d p h0 (by have:=(List.getElem?_eq_some_iff.1 hd).1;omega) hd hp⟩⟩).symm,HB.out⟩
  obtain⟨j,rfl⟩: ∃ j,k=j+1:=⟨k - 1,by omega⟩
  have hltj:j<x.zW.length:=by omega
  have hgk:=List.getElem?_eq_getElem hlt;have hgj:=List.getElem?_eq_getElem hltj
  obtain⟨b1,off,hA1,hb1,hc1⟩:=HX7.out (j+1) x.zW[j+1] hgk
  subst hA1
  obtain⟨b2,off2,hA,hb2,hc2⟩:=HX7.out j x.zW[j] hgj
  obtain⟨rfl,rfl⟩:b1=b2∧off=off2:=by injection hA with hA;injection hA with e1 e2;exact⟨e1,e2⟩
  generalize x.zW[j+1]=y at *
  generalize x.zW[j]=z at *
  have HG:=hide hgk;have HJ:=hide hgj;clear hgk hgj hA
  have cy:=(HB.out.cell hb1).trans hc1;have cz:=(HB.out.cell hb2).trans hc2
  have g0:=xB HK.out;have g1:=yF cy;have g2:=yF cz
  have e1:IntKind.i64.wrap ((j:Int)+1 - 1)=(j:Int):=by rw[IntWalk.i64_in _ (by omega)];omega
  have e2:IntKind.i64.wrap (j:Int)=(j:Int):=IntWalk.i64_in _ (by omega)
  have n0:(0:Int)≤(j:Int):=by omega
  have n2:((j:Int)<(x.zW.length:Int)):=by omega
  have n3:((j:Int)+1<(x.zW.length:Int)):=by omega
  have n4:(0:Int)≤(j:Int)+1:=by omega
  by_cases q5:y≤z
  ·have d5:decide (y≤z)=true:=decide_eq_true q5;have Q5:=hide q5
   go_wp2
   refine xA (by kernel_rfl) (by kernel_rfl) ?_
   repeat(first|go_big_quiet_skip|(go_big_quiet_want;go_big_quiet_op;first|go_big_quiet_on|(apply Exists.intro;refine⟨fun _=>?_,?_⟩;(· (fail));go_big_quiet_on)))
   refine wpQuiet_nil ?_
   rintro w9 ⟨uu,rfl⟩
   have hb9:=yG wr uu
   generalize bel wr uu=w9 at *
   have HBr:=hide (yI HB.out HB.out.size hb9);have HWr:=hide (yI HW.out HW.out.size hb9);clear hb9
   go_wp2
   go_ret
   exact⟨yH (yW fun h=>by have h1:=(h.dirty (j+1) y HG.out).2 z (by omega) HJ.out;have:=Q5.out;omega).symm,HBr.out⟩
  have d5:decide (y≤z)=false:=decide_eq_false q5
  go_wp2
  refine xA (by kernel_rfl) (by kernel_rfl) ?_
  repeat(first|go_big_quiet_skip|(go_big_quiet_want;go_big_quiet_op;first|go_big_quiet_on|(apply Exists.intro;refine⟨fun _=>?_,?_⟩;(· (fail));go_big_quiet_on)))
  refine wpQuiet_nil ?_
  rintro w9 ⟨uu,rfl⟩
  have hb9:=yG wr uu
  generalize bel wr uu=w9 at *
  have HBr:=hide (yI HB.out HB.out.size hb9);have HWr:=hide (yI HW.out HW.out.size hb9);clear hb9
  go_wp2
  go_roundw
  case rel=>exact⟨j+1+1,by omega,by omega,by go_num,fun i d p h1 h2 hd hp=>by
    by_cases e:i=j+1
    ·subst e
     rw[HG.out] at hd;injection hd with hd;subst hd
     rw[Nat.add_sub_cancel,HJ.out] at hp;injection hp with hp;subst hp
     omega
    ·exact HS.out i d p h1 (by omega) hd hp,HWr.out⟩
  case measure=>simp[intOf];omega
end Go.Proofs.YtoibekfhepnedaaGreat
