/- Contracts: valid caches, both sides. Contracts: reading a cache, both sides. Contract: l00Put, reference. -/
import Derived.Test.YteiflbhcehajkaaGreatQAsExactEditCache
import Derived.Test.YteiflbhcehajkaaGreatQAtExactEditCache
import Derived.Test.YteiflbhcehajkaaGreatQAdExactEditCache
import Derived.Test.YteiflbhcehajkaaGreatQAcExactEditCache
set_option linter.unusedVariables false
set_option linter.unusedSimpArgs false
set_option maxHeartbeats 2000000
set_option maxRecDepth 20000
section
namespace Go.Proofs.YteiflbhcehajkaaGreat
open Go.RowKit
theorem c_l00Rises (v:Value) (xs:List Int) (lo hi:Int) (w:World) (hr:RdI w v xs):Calls Tryz.prog 61 #[v,.int .i64 lo,.int .i64 hi] w fun e w'=>e= .returned (.bool (tf (Each xs (fun i x=>inB x lo hi=true∧ ∀ p,0<i→xs[i - 1]?=some p→p<x))))∧Below w.heap.size w w':=by
 obtain⟨A,cap,rfl,hl,hc,hx⟩:=hr.open_
 have HX:=hide hx;clear hx hr
 go_enter Tryz.func61,Tryz.ntmps61
 go_wp2
 go_loopw [7] (fun i wr=> ∃ k:Nat,k≤xs.length∧i= .int .i64 k∧Upto xs (fun i x=>inB x lo hi=true∧ ∀ p,0<i→xs[i - 1]?=some p→p<x) k∧Below w.heap.size w wr) (fun i _=>xs.length - (intOf i).toNat)
 case atStart=>exact⟨0,Nat.zero_le _,rfl,Upto.zero,Below.refl _ _⟩
 case round=>
  obtain⟨k,hk,rfl,hs,hbw⟩:=hrel
  have HS:=hide hs;have HB:=hide hbw;clear hs hbw
  by_cases hlt:k<xs.length
  rotate_left
  ·have hall:=hide (HS.out.all (by omega));clear HS
   go_wp2
   go_ret
   exact⟨yF (yW hall.out).symm,HB.out⟩
  have hgk:=List.getElem?_eq_getElem hlt
  obtain⟨b,off,rfl,hb,hcell⟩:=HX.out k xs[k] hgk
  generalize xs[k]=y at *
  have HG:=hide hgk;clear hgk
  have cy:=(HB.out.cell hb).trans hcell
  have n1:((k:Int)<(xs.length:Int)):=by omega
  have g0:=yD cy
  by_cases hk0:k=0
  ·have d0:decide (0<k)=false:=decide_eq_false (by omega)
   have K0:=hide hk0;clear hk0
   cases q1:inB y lo hi
   all_goals
    go_wp2
    refine yZ (by kernel_rfl) (by kernel_rfl) ?_
    repeat(first|go_big_quiet_skip|(go_big_quiet_want;go_big_quiet_op;first|go_big_quiet_on|(apply Exists.intro;refine⟨fun _=>?_,?_⟩;(· ((go_at_call 74;exact Calls.yH ((c_l00In _ _ _ _).mono (fun e w' h=>by(first|rw[q1] at h|skip);exact h)))));go_big_quiet_on)))
    refine wpQuiet_nil ?_
    rintro w9 ⟨uu,rfl⟩
    have hb9:=yE wr uu
    generalize bel wr uu=w9 at *
    have HB9:=hide (yG HB.out HB.out.size hb9);clear hb9
    go_wp2
   ·go_ret
    exact⟨yF (yV fun h=>by have h1:=(h k y HG.out).1;rw[q1] at h1;exact absurd h1 (by simp)).symm,HB9.out⟩
   ·go_roundw
    case rel=>exact⟨k+1,by omega,by go_num,HS.out.step HG.out ⟨q1,fun p h=>by have:=K0.out;omega⟩,HB9.out⟩
    case measure=>simp[intOf];omega
  obtain⟨j,rfl⟩: ∃ j,k=j+1:=⟨k - 1,by omega⟩
  have hltj:j<xs.length:=by omega
  have hgj:=List.getElem?_eq_getElem hltj
  obtain⟨b2,off2,hA,hb2,hcell2⟩:=HX.out j xs[j] hgj
  obtain⟨rfl,rfl⟩:b=b2∧off=off2:=by injection hA with hA;injection hA with e1 e2;exact⟨e1,e2⟩
  generalize xs[j]=z at *
  have HJ:=hide hgj;clear hgj hA
  have cz:=(HB.out.cell hb2).trans hcell2
  have g1:=yD cz
  have e1:IntKind.i64.wrap ((j:Int)+1 - 1)=(j:Int):=by rw[IntWalk.i64_in _ (by omega)];omega
  have e2:IntKind.i64.wrap (j:Int)=(j:Int):=IntWalk.i64_in _ (by omega)
  have n0:(0:Int)≤(j:Int):=by omega
  have n2:((j:Int)<(xs.length:Int)):=by omega
  have n3:((j:Int)+1<(xs.length:Int)):=by omega
  have n4:(0:Int)≤(j:Int)+1:=by omega
  cases q1:inB y lo hi
  ·go_wp2
   refine yZ (by kernel_rfl) (by kernel_rfl) ?_
   repeat(first|go_big_quiet_skip|(go_big_quiet_want;go_big_quiet_op;first|go_big_quiet_on|(apply Exists.intro;refine⟨fun _=>?_,?_⟩;(· ((go_at_call 74;exact Calls.yH ((c_l00In _ _ _ _).mono (fun e w' h=>by(first|rw[q1] at h|skip);exact h)))));go_big_quiet_on)))
   refine wpQuiet_nil ?_
   rintro w9 ⟨uu,rfl⟩
   have hb9:=yE wr uu
   generalize bel wr uu=w9 at *
   have HB9:=hide (yG HB.out HB.out.size hb9);clear hb9
   go_wp2
   go_ret
   exact⟨yF (yV fun h=>by have h1:=(h (j+1) y HG.out).1;rw[q1] at h1;exact absurd h1 (by simp)).symm,HB9.out⟩
  by_cases q2:y≤z
  ·have d2:decide (y≤z)=true:=decide_eq_true q2
   have Q2:=hide q2
   go_wp2
   refine yZ (by kernel_rfl) (by kernel_rfl) ?_
   repeat(first|go_big_quiet_skip|(go_big_quiet_want;go_big_quiet_op;first|go_big_quiet_on|(apply Exists.intro;refine⟨fun _=>?_,?_⟩;(· ((go_at_call 74;exact Calls.yH ((c_l00In _ _ _ _).mono (fun e w' h=>by(first|rw[q1] at h|skip);exact h)))));go_big_quiet_on)))
   refine wpQuiet_nil ?_
   rintro w9 ⟨uu,rfl⟩
   have hb9:=yE wr uu
   generalize bel wr uu=w9 at *
   have HB9:=hide (yG HB.out HB.out.size hb9);clear hb9
   go_wp2
   go_ret
   exact⟨yF (yV fun h=>by have h1:=(h (j+1) y HG.out).2 z (by omega) HJ.out;have:=Q2.out;omega).symm,HB9.out⟩
  have d2:decide (y≤z)=false:=decide_eq_false q2
  go_wp2
  refine yZ (by kernel_rfl) (by kernel_rfl) ?_
  repeat(first|go_big_quiet_skip|(go_big_quiet_want;go_big_quiet_op;first|go_big_quiet_on|(apply Exists.intro;refine⟨fun _=>?_,?_⟩;(· ((go_at_call 74;exact Calls.yH ((c_l00In _ _ _ _).mono (fun e w' h=>by(first|rw[q1] at h|skip);exact h)))));go_big_quiet_on)))
  refine wpQuiet_nil ?_
  rintro w9 ⟨uu,rfl⟩
  have hb9:=yE wr uu
  generalize bel wr uu=w9 at *
  have HB9:=hide (yG HB.out HB.out.size hb9);clear hb9
  go_wp2
  go_roundw
  case rel=>exact⟨j+1+1,by omega,by go_num,HS.out.step HG.out ⟨q1,fun p _ hp=>by rw[Nat.add_sub_cancel,HJ.out] at hp;injection hp with hp;subst hp;omega⟩,HB9.out⟩
  case measure=>simp[intOf];omega
theorem c_l31Blocks (n:Int) (w:World) (h0:0≤n) (h1:n≤1000):Calls Tryz.prog 62 #[.int .i64 n] w fun e w'=>e= .returned (.int .i64 (blocksF n))∧w=w':=by
 go_enter Tryz.func62,Tryz.ntmps62
 go_wp2
 go_ret
 exact⟨ret_int (by unfold blocksF;omega),rfl⟩
theorem c_iBlocks (x:GSession) (cs:List Value) (w:World) (h0:0≤x.zA) (h1:x.zA≤1000) (h:T.rds w x.fs cs):Calls Tryz.prog 59 #[.agg cs.toArray] w fun e w'=>e= .returned (.int .i64 (blocksF x.zA))∧Below w.heap.size w w':=by
 obtain⟨v1,v2,v3,v4,v5,rfl,h1,h2,h3,h4,h5⟩:=GSession.yL h
 clear h
 have R1:=hide h1;obtain⟨va1,vc1,rfl,vl1,vm1,vx1⟩:=T.yK h1
 have HX1:=hide vx1;clear vx1 h1
 have R2:=hide h2;obtain⟨va2,vc2,rfl,vl2,vm2,vx2⟩:=T.yK h2
 have HX2:=hide vx2;clear vx2 h2
 have h3i:=T.yQ.1 h3;obtain⟨va3,vc3,rfl,vl3,vm3,vx3⟩:=h3i.open_
 have R3:=hide h3i;have HX3:=hide vx3;clear vx3 h3 h3i
 have R4:=hide h4;obtain⟨va4,vc4,rfl,vl4,vm4,vx4⟩:=T.yK h4
 have HX4:=hide vx4;clear vx4 h4
 have R5:=hide h5;obtain⟨va5,vc5,rfl,vl5,vm5,vx5⟩:=T.yK h5
 have HX5:=hide vx5;clear vx5 h5
 have HB0:=hide (show Below w.heap.size w (w.alloc (.cells #[.int .i64 x.zA,(.slice va1 x.zG.length vc1),(.slice va2 x.zE.length vc2),(.slice va3 x.zK.length vc3),(.slice va4 x.zJ.length vc4),(.slice va5 x.zF.zD.length vc5)] 41)) from(Below.refl _ _).alloc (Nat.le_refl _) _)
 have HK0:=hide (Bk.born w 41 #[.int .i64 x.zA,(.slice va1 x.zG.length vc1),(.slice va2 x.zE.length vc2),(.slice va3 x.zK.length vc3),(.slice va4 x.zJ.length vc4),(.slice va5 x.zF.zD.length vc5)])
 go_enter Tryz.func59,Tryz.ntmps59
 go_wp2
 go_ret
 exact⟨ret_int (by unfold blocksF;omega),HB0.out⟩
theorem c_l31Cache (x:GCache) (b o:Nat) (w:World) (hs:x.zB.small) (h:T.at w x.fs b o):Calls Tryz.prog 23 #[.pointer (some ⟨b,o,none⟩)] w fun e w'=>e= .returned (.bool (tf (CacheOk x)))∧Below w.heap.size w w':=by
 have HAT:=hide h
 obtain⟨hlt0,cs,hr,hc⟩:=h
 obtain⟨v1,v2,v3,v4,v5,v6,v7,rfl,h1,h2,h3,h4,h5,h6,h7⟩:=GCache.yL hr
 clear hr
 have R1:=hide h1;obtain⟨va1,vc1,rfl,vl1,vm1,vx1⟩:=T.yK h1
 have HX1:=hide vx1;clear vx1 h1
 have R2:=hide h2;obtain⟨va2,vc2,rfl,vl2,vm2,vx2⟩:=T.yK h2
 have HX2:=hide vx2;clear vx2 h2
 have h3i:=T.yQ.1 h3;obtain⟨va3,vc3,rfl,vl3,vm3,vx3⟩:=h3i.open_
 have R3:=hide h3i;have HX3:=hide vx3;clear vx3 h3 h3i
 have R4:=hide h4;obtain⟨va4,vc4,rfl,vl4,vm4,vx4⟩:=T.yK h4
 have HX4:=hide vx4;clear vx4 h4
 have R5:=hide h5;obtain⟨va5,vc5,rfl,vl5,vm5,vx5⟩:=T.yK h5
 have HX5:=hide vx5;clear vx5 h5
 have h6i:=T.yQ.1 h6;obtain⟨va6,vc6,rfl,vl6,vm6,vx6⟩:=h6i.open_
 have R6:=hide h6i;have HX6:=hide vx6;clear vx6 h6 h6i
 have h7i:=T.yQ.1 h7;obtain⟨va7,vc7,rfl,vl7,vm7,vx7⟩:=h7i.open_
 have R7:=hide h7i;have HX7:=hide vx7;clear vx7 h7 h7i
 have HL:=hide hlt0;have HCC:=hide hc;have HB0:=hide (Below.refl w.heap.size w);clear hlt0 hc
 have HATS:=hide (show T.at w x.zB.fs b o from T.at_sub [] [.int .i64 x.zB.zA,(.slice va1 x.zB.zG.length vc1),(.slice va2 x.zB.zE.length vc2),(.slice va3 x.zB.zK.length vc3),(.slice va4 x.zB.zJ.length vc4),(.slice va5 x.zB.zF.zD.length vc5)] [(.slice va6 x.yA.length vc6),(.slice va7 x.zU.length vc7)] HL.out HCC.out (GSession.rd_mk R1.out R2.out (T.yQ.2 R3.out) R4.out R5.out))
 have HSM:=hide hs;clear hs
 have p0:w.cell? ⟨b,o,none⟩=some (.int .i64 x.zB.zA):=(HB0.out.cell HL.out).trans (HCC.out 0 _ rfl)
 have p1:w.cell? ⟨b,o+1,none⟩=some (.slice va1 x.zB.zG.length vc1):=(HB0.out.cell HL.out).trans (HCC.out 1 _ rfl)
 have p2:w.cell? ⟨b,o+2,none⟩=some (.slice va2 x.zB.zE.length vc2):=(HB0.out.cell HL.out).trans (HCC.out 2 _ rfl)
 have p3:w.cell? ⟨b,o+3,none⟩=some (.slice va3 x.zB.zK.length vc3):=(HB0.out.cell HL.out).trans (HCC.out 3 _ rfl)
 have p4:w.cell? ⟨b,o+4,none⟩=some (.slice va4 x.zB.zJ.length vc4):=(HB0.out.cell HL.out).trans (HCC.out 4 _ rfl)
 have p5:w.cell? ⟨b,o+5,none⟩=some (.slice va5 x.zB.zF.zD.length vc5):=(HB0.out.cell HL.out).trans (HCC.out 5 _ rfl)
 have p6:w.cell? ⟨b,o+6,none⟩=some (.slice va6 x.yA.length vc6):=(HB0.out.cell HL.out).trans (HCC.out 6 _ rfl)
 have p7:w.cell? ⟨b,o+7,none⟩=some (.slice va7 x.zU.length vc7):=(HB0.out.cell HL.out).trans (HCC.out 7 _ rfl)
 have lb:b<w.heap.size:=Nat.lt_of_lt_of_le HL.out HB0.out.size
 go_enter Tryz.func23,Tryz.ntmps23
 go_wp2
 by_cases q1:SessionOk x.zB
 rotate_left
 ·have a1:=yV q1;have Q1:=hide q1;clear q1
  have g0:=yD p0
  have g1:=yD p6
  have g2:=yD p7
  refine yZ (by kernel_rfl) (by kernel_rfl) ?_
  repeat(first|go_big_quiet_skip|(go_big_quiet_want;go_big_quiet_op;first|go_big_quiet_on|(apply Exists.intro;refine⟨fun _=>?_,?_⟩;(· ((go_at_call 35;exact Calls.yI ((c_l27Ok x.zB _ _ _ HSM.out (T.at_below HATS.out (yE w _))).mono (fun e w' h=>by(first|rw[a1] at h|skip);exact h)))));go_big_quiet_on)))
  refine wpQuiet_nil ?_
  rintro w9 ⟨uu,rfl⟩
  have hb9:=yE w uu
  generalize bel w uu=w9 at *
  have HB9:=hide (yG HB0.out HB0.out.size hb9);clear g0 g1 g2
  go_wp2
  go_ret
  exact⟨yF (yV fun h=>Q1.out h.session).symm,HB9.out⟩
 have a1:=yW q1;have Q1:=hide q1;clear q1
 have i1:=yY.1 Q1.out.length
 cases q2:sigB x.yA
 ·have hneg:=hide (show CacheOk x→False from fun h=>by
   have h1:=h.length;have h2:=h.mix
   have h3:sigB x.yA=true:=by unfold sigB;rw[h2];simp;omega
   rw[q2] at h3
   exact absurd h3 (by simp))
  have g0:=yD p0
  have g1:=yD p6
  have g2:=yD p7
  refine yZ (by kernel_rfl) (by kernel_rfl) ?_
  repeat(first|go_big_quiet_skip|(go_big_quiet_want;go_big_quiet_op;first|go_big_quiet_on|(apply Exists.intro;refine⟨fun _=>?_,?_⟩;(· (first|(go_at_call 35;exact Calls.yI ((c_l27Ok x.zB _ _ _ HSM.out (T.at_below HATS.out (yE w _))).mono (fun e w' h=>by(first|rw[a1] at h|skip);exact h)))|(go_at_call 60;exact Calls.yH ((c_l03Ok _ x.yA _ (Rd.below R6.out (yE w _))).mono (fun e w' h=>by(first|rw[q2] at h|skip);exact h)))));go_big_quiet_on)))
  refine wpQuiet_nil ?_
  rintro w9 ⟨uu,rfl⟩
  have hb9:=yE w uu
  generalize bel w uu=w9 at *
  have HB9:=hide (yG HB0.out HB0.out.size hb9);clear g0 g1 g2
  go_wp2
  go_ret
  exact⟨yF (yV fun h=>hneg.out h).symm,HB9.out⟩
 have hsm:=hide (show smpB x.yA=true by unfold sigB at q2;simp at q2;exact q2.2)
 by_cases q3:(x.yA.length:Int)=x.zB.zA
 rotate_left
 ·have b3:((x.yA.length:Int) == x.zB.zA)=false:=yO q3;have Q3:=hide q3;clear q3
  have g0:=yD p0
  have g1:=yD p6
  have g2:=yD p7
  refine yZ (by kernel_rfl) (by kernel_rfl) ?_
  repeat(first|go_big_quiet_skip|(go_big_quiet_want;go_big_quiet_op;first|go_big_quiet_on|(apply Exists.intro;refine⟨fun _=>?_,?_⟩;(· (first|(go_at_call 35;exact Calls.yI ((c_l27Ok x.zB _ _ _ HSM.out (T.at_below HATS.out (yE w _))).mono (fun e w' h=>by(first|rw[a1] at h|skip);exact h)))|(go_at_call 60;exact Calls.yH ((c_l03Ok _ x.yA _ (Rd.below R6.out (yE w _))).mono (fun e w' h=>by(first|rw[q2] at h|skip);exact h)))));go_big_quiet_on)))
  refine wpQuiet_nil ?_
  rintro w9 ⟨uu,rfl⟩
  have hb9:=yE w uu
  generalize bel w uu=w9 at *
  have HB9:=hide (yG HB0.out HB0.out.size hb9);clear g0 g1 g2
  go_wp2
  go_ret
  exact⟨yF (yV fun h=>Q3.out h.length).symm,HB9.out⟩
 have b3:((x.yA.length:Int) == x.zB.zA)=true:=yP q3;have Q3:=hide q3;clear q3
 have e5:IntKind.i64.wrap (blocksF x.zB.zA - 1)=blocksF x.zB.zA - 1:=IntWalk.i64_in _ (by unfold blocksF;omega)
 by_cases q4:Each x.zU (fun i x_1=>inB x_1 0 (blocksF x.zB.zA - 1)=true∧ ∀ p,0<i→x.zU[i - 1]?=some p→p<x_1)
 rotate_left
 ·have a4:=yV q4;have Q4:=hide q4;clear q4
  have g0:=yD p0
  have g1:=yD p6
  have g2:=yD p7
  refine yZ (by kernel_rfl) (by kernel_rfl) ?_
  repeat(first|go_big_quiet_skip|(go_big_quiet_want;go_big_quiet_op;first|go_big_quiet_on|(apply Exists.intro;refine⟨fun _=>?_,?_⟩;(· (first|(go_at_call 35;exact Calls.yI ((c_l27Ok x.zB _ _ _ HSM.out (T.at_below HATS.out (yE w _))).mono (fun e w' h=>by(first|rw[a1] at h|skip);exact h)))|(go_at_call 60;exact Calls.yH ((c_l03Ok _ x.yA _ (Rd.below R6.out (yE w _))).mono (fun e w' h=>by(first|rw[q2] at h|skip);exact h)))|(go_at_call 62;exact Calls.yH (c_l31Blocks _ _ i1.1 i1.2))|(go_at_call 61;exact Calls.yI ((c_l00Rises _ x.zU _ _ _ (Rd.below R7.out (yE w _))).mono (fun e w' h=>by(first|rw[a4] at h|skip);exact h)))));go_big_quiet_on)))
  refine wpQuiet_nil ?_
  rintro w9 ⟨uu,rfl⟩
  have hb9:=yE w uu
  generalize bel w uu=w9 at *
  have HB9:=hide (yG HB0.out HB0.out.size hb9);clear g0 g1 g2
  go_wp2
  go_ret
  exact⟨yF (yV fun h=>Q4.out (fun i d hd=>⟨yY.2 (h.dirty i d hd).1,(h.dirty i d hd).2⟩)).symm,HB9.out⟩
 have a4:=yW q4;have Q4:=hide q4;clear q4
 have g0:=yD p0
 have g1:=yD p6
 have g2:=yD p7
 refine yZ (by kernel_rfl) (by kernel_rfl) ?_
 repeat(first|go_big_quiet_skip|(go_big_quiet_want;go_big_quiet_op;first|go_big_quiet_on|(apply Exists.intro;refine⟨fun _=>?_,?_⟩;(· (first|(go_at_call 35;exact Calls.yI ((c_l27Ok x.zB _ _ _ HSM.out (T.at_below HATS.out (yE w _))).mono (fun e w' h=>by(first|rw[a1] at h|skip);exact h)))|(go_at_call 60;exact Calls.yH ((c_l03Ok _ x.yA _ (Rd.below R6.out (yE w _))).mono (fun e w' h=>by(first|rw[q2] at h|skip);exact h)))|(go_at_call 62;exact Calls.yH (c_l31Blocks _ _ i1.1 i1.2))|(go_at_call 61;exact Calls.yI ((c_l00Rises _ x.zU _ _ _ (Rd.below R7.out (yE w _))).mono (fun e w' h=>by(first|rw[a4] at h|skip);exact h)))));go_big_quiet_on)))
 refine wpQuiet_nil ?_
 rintro w9 ⟨uu,rfl⟩
 have hb9:=yE w uu
 generalize bel w uu=w9 at *
 have HB9:=hide (yG HB0.out HB0.out.size hb9);clear g0 g1 g2
 go_wp2
 go_ret
 exact⟨yF (yW ⟨Q1.out,Q3.out,hsm.out,fun i d hd=>⟨yY.1 (Q4.out i d hd).1,(Q4.out i d hd).2⟩⟩).symm,HB9.out⟩
theorem c_isCache (x:GCache) (cs:List Value) (w:World) (hs:x.zB.small) (h:T.rds w x.fs cs):Calls Tryz.prog 27 #[.agg cs.toArray] w fun e w'=>e= .returned (.bool (tf (CacheOk x)))∧Below w.heap.size w w':=by
 obtain⟨v1,v2,v3,v4,v5,v6,v7,rfl,h1,h2,h3,h4,h5,h6,h7⟩:=GCache.yL h
 clear h
 have R1:=hide h1;obtain⟨va1,vc1,rfl,vl1,vm1,vx1⟩:=T.yK h1
 have HX1:=hide vx1;clear vx1 h1
 have R2:=hide h2;obtain⟨va2,vc2,rfl,vl2,vm2,vx2⟩:=T.yK h2
 have HX2:=hide vx2;clear vx2 h2
 have h3i:=T.yQ.1 h3;obtain⟨va3,vc3,rfl,vl3,vm3,vx3⟩:=h3i.open_
 have R3:=hide h3i;have HX3:=hide vx3;clear vx3 h3 h3i
 have R4:=hide h4;obtain⟨va4,vc4,rfl,vl4,vm4,vx4⟩:=T.yK h4
 have HX4:=hide vx4;clear vx4 h4
 have R5:=hide h5;obtain⟨va5,vc5,rfl,vl5,vm5,vx5⟩:=T.yK h5
 have HX5:=hide vx5;clear vx5 h5
 have h6i:=T.yQ.1 h6;obtain⟨va6,vc6,rfl,vl6,vm6,vx6⟩:=h6i.open_
 have R6:=hide h6i;have HX6:=hide vx6;clear vx6 h6 h6i
 have h7i:=T.yQ.1 h7;obtain⟨va7,vc7,rfl,vl7,vm7,vx7⟩:=h7i.open_
 have R7:=hide h7i;have HX7:=hide vx7;clear vx7 h7 h7i
 have HB0:=hide (show Below w.heap.size w (w.alloc (.cells #[.int .i64 x.zB.zA,(.slice va1 x.zB.zG.length vc1),(.slice va2 x.zB.zE.length vc2),(.slice va3 x.zB.zK.length vc3),(.slice va4 x.zB.zJ.length vc4),(.slice va5 x.zB.zF.zD.length vc5),(.slice va6 x.yA.length vc6),(.slice va7 x.zU.length vc7)] 43)) from(Below.refl _ _).alloc (Nat.le_refl _) _)
 have HK0:=hide (Bk.born w 43 #[.int .i64 x.zB.zA,(.slice va1 x.zB.zG.length vc1),(.slice va2 x.zB.zE.length vc2),(.slice va3 x.zB.zK.length vc3),(.slice va4 x.zB.zJ.length vc4),(.slice va5 x.zB.zF.zD.length vc5),(.slice va6 x.yA.length vc6),(.slice va7 x.zU.length vc7)])
 have HSM:=hide hs;clear hs
 go_enter Tryz.func27,Tryz.ntmps27
 go_wp2
 generalize (w.alloc (.cells #[.int .i64 x.zB.zA,(.slice va1 x.zB.zG.length vc1),(.slice va2 x.zB.zE.length vc2),(.slice va3 x.zB.zK.length vc3),(.slice va4 x.zB.zJ.length vc4),(.slice va5 x.zB.zF.zD.length vc5),(.slice va6 x.yA.length vc6),(.slice va7 x.zU.length vc7)] 43))=W at *
 have g0:=xA HK0.out;have lW:=HK0.out.lt
 have HRW:=hide (fun u=>GSession.rd_mk (T.yC R1.out (yG HB0.out HB0.out.size (yE W u))) (T.yC R2.out (yG HB0.out HB0.out.size (yE W u))) (T.yQ.2 (Rd.below R3.out (yG HB0.out HB0.out.size (yE W u)))) (T.yC R4.out (yG HB0.out HB0.out.size (yE W u))) (T.yC R5.out (yG HB0.out HB0.out.size (yE W u))))
 by_cases q1:SessionOk x.zB
 rotate_left
 ·have a1:=yV q1;have Q1:=hide q1;clear q1
  refine yZ (by kernel_rfl) (by kernel_rfl) ?_
  repeat(first|go_big_quiet_skip|(go_big_quiet_want;go_big_quiet_op;first|go_big_quiet_on|(apply Exists.intro;refine⟨fun _=>?_,?_⟩;(· (first|(go_at_call 41;exact Calls.yI ((c_isSession x.zB _ _ HSM.out (HRW.out _)).mono (fun e w' h=>by(first|rw[a1] at h|skip);exact h)))));go_big_quiet_on)))
  refine wpQuiet_nil ?_
  rintro w9 ⟨uu,rfl⟩
  have hb9:=yE W uu
  generalize bel W uu=w9 at *
  have HB9:=hide (yG HB0.out HB0.out.size hb9)
  go_wp2
  go_ret
  exact⟨yF (yV fun h=>Q1.out h.session).symm,HB9.out⟩
 have a1:=yW q1;have Q1:=hide q1;clear q1
 have i1:=yY.1 Q1.out.length
 by_cases q3:(x.yA.length:Int)=x.zB.zA
 rotate_left
 ·have b3:((x.yA.length:Int) != x.zB.zA)=true:=bneI_t q3;have Q3:=hide q3;clear q3
  refine yZ (by kernel_rfl) (by kernel_rfl) ?_
  repeat(first|go_big_quiet_skip|(go_big_quiet_want;go_big_quiet_op;first|go_big_quiet_on|(apply Exists.intro;refine⟨fun _=>?_,?_⟩;(· (first|(go_at_call 41;exact Calls.yI ((c_isSession x.zB _ _ HSM.out (HRW.out _)).mono (fun e w' h=>by(first|rw[a1] at h|skip);exact h)))|(go_at_call 66;exact Calls.yH (c_size _ x.yA _ (Rd.below R6.out (yG HB0.out HB0.out.size (yE W _)))))));go_big_quiet_on)))
  refine wpQuiet_nil ?_
  rintro w9 ⟨uu,rfl⟩
  have hb9:=yE W uu
  generalize bel W uu=w9 at *
  have HB9:=hide (yG HB0.out HB0.out.size hb9)
  go_wp2
  go_ret
  exact⟨yF (yV fun h=>Q3.out h.length).symm,HB9.out⟩
 have b3:((x.yA.length:Int) != x.zB.zA)=false:=bneI_f q3;have Q3:=hide q3;clear q3
 cases q2:smpB x.yA
 ·skip
  refine yZ (by kernel_rfl) (by kernel_rfl) ?_
  repeat(first|go_big_quiet_skip|(go_big_quiet_want;go_big_quiet_op;first|go_big_quiet_on|(apply Exists.intro;refine⟨fun _=>?_,?_⟩;(· (first|(go_at_call 41;exact Calls.yI ((c_isSession x.zB _ _ HSM.out (HRW.out _)).mono (fun e w' h=>by(first|rw[a1] at h|skip);exact h)))|(go_at_call 66;exact Calls.yH (c_size _ x.yA _ (Rd.below R6.out (yG HB0.out HB0.out.size (yE W _)))))|(go_at_call 67;exact Calls.yH ((c_areSamples _ x.yA _ (Rd.below R6.out (yG HB0.out HB0.out.size (yE W _)))).mono (fun e w' h=>by(first|rw[q2] at h|skip);exact h)))));go_big_quiet_on)))
  refine wpQuiet_nil ?_
  rintro w9 ⟨uu,rfl⟩
  have hb9:=yE W uu
  generalize bel W uu=w9 at *
  have HB9:=hide (yG HB0.out HB0.out.size hb9)
  go_wp2
  go_ret
  exact⟨yF (yV fun h=>by have h1:=h.mix;rw[q2] at h1;exact absurd h1 (by simp)).symm,HB9.out⟩
 have bl:0≤blocksF x.zB.zA∧blocksF x.zB.zA≤9223372036854775807:=by unfold blocksF;omega
 by_cases q4:Idx x.zU (blocksF x.zB.zA)
 rotate_left
 ·have a4:=yV q4;have Q4:=hide q4;clear q4
  refine yZ (by kernel_rfl) (by kernel_rfl) ?_
  repeat(first|go_big_quiet_skip|(go_big_quiet_want;go_big_quiet_op;first|go_big_quiet_on|(apply Exists.intro;refine⟨fun _=>?_,?_⟩;(· (first|(go_at_call 41;exact Calls.yI ((c_isSession x.zB _ _ HSM.out (HRW.out _)).mono (fun e w' h=>by(first|rw[a1] at h|skip);exact h)))|(go_at_call 66;exact Calls.yH (c_size _ x.yA _ (Rd.below R6.out (yG HB0.out HB0.out.size (yE W _)))))|(go_at_call 67;exact Calls.yH ((c_areSamples _ x.yA _ (Rd.below R6.out (yG HB0.out HB0.out.size (yE W _)))).mono (fun e w' h=>by(first|rw[q2] at h|skip);exact h)))|(go_at_call 59;exact Calls.yI (c_iBlocks x.zB _ _ i1.1 i1.2 (HRW.out _)))|(go_at_call 68;exact Calls.yH ((c_areIndices _ x.zU _ _ (Rd.below R7.out (yG HB0.out HB0.out.size (yE W _))) bl.1 bl.2).mono (fun e w' h=>by(first|rw[a4] at h|skip);exact h)))));go_big_quiet_on)))
  refine wpQuiet_nil ?_
  rintro w9 ⟨uu,rfl⟩
  have hb9:=yE W uu
  generalize bel W uu=w9 at *
  have HB9:=hide (yG HB0.out HB0.out.size hb9)
  go_wp2
  go_ret
  exact⟨yF (yV fun h=>Q4.out (fun i d hd=>(h.dirty i d hd).1)).symm,HB9.out⟩
 have a4:=yW q4;have Q4:=hide q4;clear q4
 refine yZ (by kernel_rfl) (by kernel_rfl) ?_
 repeat(first|go_big_quiet_skip|(go_big_quiet_want;go_big_quiet_op;first|go_big_quiet_on|(apply Exists.intro;refine⟨fun _=>?_,?_⟩;(· (first|(go_at_call 41;exact Calls.yI ((c_isSession x.zB _ _ HSM.out (HRW.out _)).mono (fun e w' h=>by(first|rw[a1] at h|skip);exact h)))|(go_at_call 66;exact Calls.yH (c_size _ x.yA _ (Rd.below R6.out (yG HB0.out HB0.out.size (yE W _)))))|(go_at_call 67;exact Calls.yH ((c_areSamples _ x.yA _ (Rd.below R6.out (yG HB0.out HB0.out.size (yE W _)))).mono (fun e w' h=>by(first|rw[q2] at h|skip);exact h)))|(go_at_call 59;exact Calls.yI (c_iBlocks x.zB _ _ i1.1 i1.2 (HRW.out _)))|(go_at_call 68;exact Calls.yH ((c_areIndices _ x.zU _ _ (Rd.below R7.out (yG HB0.out HB0.out.size (yE W _))) bl.1 bl.2).mono (fun e w' h=>by(first|rw[a4] at h|skip);exact h)))));go_big_quiet_on)))
 refine wpQuiet_nil ?_
 rintro w9 ⟨uu,rfl⟩
 have hb9:=yE W uu
 generalize bel W uu=w9 at *
 have HB9:=hide (yG HB0.out HB0.out.size hb9)
 have HK9:=hide (HK0.out.below hb9 HK0.out.lt);clear hb9 g0 a1 a4 b3 bl lW
 have ka:=HK9.out.cell;have la:=HK9.out.lt
 go_wp2
 clear ka la
 go_loopw [3] (fun i wr=> ∃ k:Nat,1≤k∧k≤x.zU.length+1∧i= .int .i64 k∧(∀ j d p,0<j→j<k→x.zU[j]?=some d→x.zU[j - 1]?=some p→p<d)∧Below w9.heap.size w9 wr) (fun i _=>x.zU.length+1 - (intOf i).toNat)
 case atStart=>exact⟨1,by omega,by omega,rfl,fun j d p h1 h2=>by omega,Below.refl _ _⟩
 case round=>
  obtain⟨k,hk1,hk,rfl,hs,hbw⟩:=hrel
  have HS:=hide hs;have HW:=hide hbw;have HB:=hide (yG HB9.out HB9.out.size hbw);have HK:=hide (HK9.out.below hbw HK9.out.lt);clear hs hbw
  have ka:=HK.out.cell;have la:=HK.out.lt
  by_cases hlt:k<x.zU.length
  rotate_left
  ·go_wp2
   go_ret
   exact⟨yF (yW ⟨Q1.out,Q3.out,q2,fun i d hd=>⟨Q4.out i d hd,fun p h0 hp=>HS.out i d p h0 (by have:=(List.getElem?_eq_some_iff.1 hd).1;omega) hd hp⟩⟩).symm,HB.out⟩
  obtain⟨j,rfl⟩: ∃ j,k=j+1:=⟨k - 1,by omega⟩
  have hltj:j<x.zU.length:=by omega
  have hgk:=List.getElem?_eq_getElem hlt;have hgj:=List.getElem?_eq_getElem hltj
  obtain⟨b1,off,hA1,hb1,hc1⟩:=HX7.out (j+1) x.zU[j+1] hgk
  subst hA1
  obtain⟨b2,off2,hA,hb2,hc2⟩:=HX7.out j x.zU[j] hgj
  obtain⟨rfl,rfl⟩:b1=b2∧off=off2:=by injection hA with hA;injection hA with e1 e2;exact⟨e1,e2⟩
  generalize x.zU[j+1]=y at *
  generalize x.zU[j]=z at *
  have HG:=hide hgk;have HJ:=hide hgj;clear hgk hgj hA
  have cy:=(HB.out.cell hb1).trans hc1;have cz:=(HB.out.cell hb2).trans hc2
  have g0:=xA HK.out;have g1:=yD cy;have g2:=yD cz
  have e1:IntKind.i64.wrap ((j:Int)+1 - 1)=(j:Int):=by rw[IntWalk.i64_in _ (by omega)];omega
  have e2:IntKind.i64.wrap (j:Int)=(j:Int):=IntWalk.i64_in _ (by omega)
  have n0:(0:Int)≤(j:Int):=by omega
  have n2:((j:Int)<(x.zU.length:Int)):=by omega
  have n3:((j:Int)+1<(x.zU.length:Int)):=by omega
  have n4:(0:Int)≤(j:Int)+1:=by omega
  by_cases q5:y≤z
  ·have d5:decide (y≤z)=true:=decide_eq_true q5;have Q5:=hide q5
   go_wp2
   refine yZ (by kernel_rfl) (by kernel_rfl) ?_
   repeat(first|go_big_quiet_skip|(go_big_quiet_want;go_big_quiet_op;first|go_big_quiet_on|(apply Exists.intro;refine⟨fun _=>?_,?_⟩;(· (fail));go_big_quiet_on)))
   refine wpQuiet_nil ?_
   rintro w9 ⟨uu,rfl⟩
   have hb9:=yE wr uu
   generalize bel wr uu=w9 at *
   have HBr:=hide (yG HB.out HB.out.size hb9);have HWr:=hide (yG HW.out HW.out.size hb9);clear hb9
   go_wp2
   go_ret
   exact⟨yF (yV fun h=>by have h1:=(h.dirty (j+1) y HG.out).2 z (by omega) HJ.out;have:=Q5.out;omega).symm,HBr.out⟩
  have d5:decide (y≤z)=false:=decide_eq_false q5
  go_wp2
  refine yZ (by kernel_rfl) (by kernel_rfl) ?_
  repeat(first|go_big_quiet_skip|(go_big_quiet_want;go_big_quiet_op;first|go_big_quiet_on|(apply Exists.intro;refine⟨fun _=>?_,?_⟩;(· (fail));go_big_quiet_on)))
  refine wpQuiet_nil ?_
  rintro w9 ⟨uu,rfl⟩
  have hb9:=yE wr uu
  generalize bel wr uu=w9 at *
  have HBr:=hide (yG HB.out HB.out.size hb9);have HWr:=hide (yG HW.out HW.out.size hb9);clear hb9
  go_wp2
  go_roundw
  case rel=>exact⟨j+1+1,by omega,by omega,by go_num,fun i d p h1 h2 hd hp=>by
    by_cases e:i=j+1
    ·subst e
     rw[HG.out] at hd;injection hd with hd;subst hd
     rw[Nat.add_sub_cancel,HJ.out] at hp;injection hp with hp;subst hp
     omega
    ·exact HS.out i d p h1 (by omega) hd hp,HWr.out⟩
  case measure=>simp[intOf];omega
end Go.Proofs.YteiflbhcehajkaaGreat
end
section
namespace Go.Proofs.YteiflbhcehajkaaGreat
open Go.RowKit
theorem c_has (v:Value) (xs:List Int) (n:Int) (w:World) (hr:RdI w v xs):Calls Tryz.prog 29 #[v,.int .i64 n] w fun e w'=>e= .returned (.bool (decide (n ∈ xs)))∧w=w':=by
 obtain⟨A,cap,rfl,hl,hc,hx⟩:=hr.open_
 have HX:=hide hx;clear hx hr
 go_enter Tryz.func29,Tryz.ntmps29
 go_wp2
 go_loop [9] (fun i=> ∃ k:Nat,k≤xs.length∧i= .int .i64 k∧Upto xs (fun _ x=>x≠n) k) (fun i=>xs.length - (intOf i).toNat)
 case atStart=>exact⟨0,Nat.zero_le _,rfl,Upto.zero⟩
 case round=>
  obtain⟨k,hk,rfl,hs⟩:=hrel
  have HS:=hide hs;clear hs
  by_cases hlt:k<xs.length
  ·have hgk:=List.getElem?_eq_getElem hlt
   obtain⟨b,off,rfl,hb,hcell⟩:=HX.out k xs[k] hgk
   generalize xs[k]=x at *
   have HG:=hide hgk;clear hgk
   by_cases hq:x=n
   ·have q:(n == x)=true:=yP hq.symm
    have HQ:=hide hq;clear hq
    go_wp2
    go_ret
    exact⟨yF (decide_eq_true (by rw[←HQ.out];exact List.mem_of_getElem? HG.out)).symm,rfl⟩
   ·have q:(n == x)=false:=yO (fun e=>hq e.symm)
    have HQ:=hide hq;clear hq
    go_wp2
    go_round
    case rel=>exact⟨k+1,by omega,by go_num,HS.out.step HG.out HQ.out⟩
    case measure=>simp[intOf];omega
  ·have hall:=hide (HS.out.all (by omega))
   go_wp2
   go_ret
   exact⟨yF (decide_eq_false (fun h=>by
    obtain⟨i,hi,e⟩:=List.mem_iff_getElem.1 h
    exact hall.out i _ (List.getElem?_eq_getElem hi) e)).symm,rfl⟩
end Go.Proofs.YteiflbhcehajkaaGreat
end
section
namespace Go.Proofs.YteiflbhcehajkaaGreat
open Go.RowKit
theorem any_ge {l:List Int} {n:Int} :(l.any fun x=>decide (n≤x))=true↔ ∃ x ∈ l,n≤x:=by simp
theorem putU_snoc {xs:List Int} {n x:Int} {k:Nat} (h:xs[k]?=some x):
  putU xs n (k+1)=if ((xs.take k).any fun y=>decide (n≤y))=true then putU xs n k++ [x] else if n≤x then (if n<x then putU xs n k++ [n]++ [x] else putU xs n k++ [x]) else putU xs n k++ [x]:=by
 unfold putU
 rw[take_snoc_of h]
 by_cases hd:((xs.take k).any fun y=>decide (n≤y))=true
 ·rw[if_pos hd,if_pos hd,if_pos (by rw[List.any_append,hd];rfl),putF_app _ (any_ge.1 hd)]
 ·rw[if_neg hd,if_neg hd]
  have hlow: ∀ y ∈ xs.take k,y<n:=fun y hy=>by
   apply Int.not_le.1
   intro hn
   exact hd (any_ge.2 ⟨y,hy,hn⟩)
  by_cases hx:n≤x
  ·rw[if_pos hx,if_pos (by rw[List.any_append];simp[hx]),putF_cut hlow hx]
   split<;>simp
  ·rw[if_neg hx,if_neg (by rw[List.any_append];simp only[Bool.or_eq_true,not_or];exact⟨hd,by simp[hx]⟩)]
theorem putU_end {xs:List Int} {n:Int} :(if ((xs.take xs.length).any fun y=>decide (n≤y))=true then putU xs n xs.length else putU xs n xs.length++ [n])=putF xs n:=by
 unfold putU
 rw[List.take_length]
 by_cases hd:(xs.any fun y=>decide (n≤y))=true
 ·rw[if_pos hd,if_pos hd]
 ·rw[if_neg hd,if_neg hd,putF_low (fun y hy=>by
   apply Int.not_le.1
   intro hn
   exact hd (any_ge.2 ⟨y,hy,hn⟩))]
theorem length_putU (xs:List Int) (n:Int) (k:Nat):(putU xs n k).length≤xs.length+1:=by
 unfold putU
 have h1:(xs.take k).length≤xs.length:=by rw[List.length_take];omega
 split
 ·have:=putF_len (xs.take k) n;omega
 ·omega
theorem c_l00Put (v:Value) (xs:List Int) (n:Int) (w:World) (hr:RdI w v xs) (hn:xs.length≤1048576):Calls Tryz.prog 107 #[v,.int .i64 n] w fun e w'=> ∃ v',e= .returned v'∧OwI 2 w' w.heap.size v' (putF xs n)∧Below w.heap.size w w':=by
 have HN0:=hide (new_i64 w);have HA0:=hide (show Below w.heap.size w (w.alloc (.cells #[] 2)) from(Below.refl _ _).alloc (Nat.le_refl _) _)
 obtain⟨A,cap,rfl,hl,hc,hx⟩:=hr.open_
 have HX:=hide hx;clear hx hr
 go_enter Tryz.func107,Tryz.ntmps107
 go_wp2
 go_loopw [5,6,7] (fun r d i wr=> ∃ (k:Nat) (b:Bool),k≤xs.length∧i= .int .i64 k∧d= .bool b∧b=((xs.take k).any fun y=>decide (n≤y))∧OwI 2 wr w.heap.size r (putU xs n k)∧Below w.heap.size w wr) (fun _ _ i _=>xs.length - (intOf i).toNat)
 case atStart=>exact⟨0,false,Nat.zero_le _,rfl,rfl,rfl,HN0.out,HA0.out⟩
 case round=>
  obtain⟨k,b,hk,rfl,rfl,hb,ho,hbw⟩:=hrel
  have HD:=hide hb;have HO:=hide ho;have HB:=hide hbw;have hsz:=hbw.size;clear hb ho hbw HN0 HA0
  have hll:(putU xs n k).length+1≤17592186044416:=by have:=length_putU xs n k;omega
  have hl2:(putU xs n k++ [n]).length+1≤17592186044416:=by have:=length_putU xs n k;rw[List.length_append];simp;omega
  by_cases hlt:k<xs.length
  rotate_left
  ·
   obtain rfl:k=xs.length:=by omega
   have HE:=hide (@putU_end xs n)
   rw[←HD.out] at HE
   cases hbb:b with
   |true=>
    subst hbb;have HE2:=hide (show putU xs n xs.length=putF xs n from HE.out);clear HE
    go_wp2
    go_ret
    exact⟨_,rfl,HE2.out ▸ HO.out,HB.out⟩
   |false=>
    subst hbb;have HE2:=hide (show putU xs n xs.length++ [n]=putF xs n from HE.out);clear HE
    go_wp2_with (at_builtin;refine app1_i64 (n:=n) rfl _ _ rfl rfl HO.out rfl hll hsz ?_;intro v8 w8 ho_ hg_ hv_;have HO8:=hide ho_;have HB8:=hide (HB.out.grown hg_ hsz (fun j hj=>(HO.out.lt j hj).1));have hsz8:=HB8.out.size;clear ho_ hg_ hv_)
    go_ret
    exact⟨_,rfl,HE2.out ▸ HO8.out,HB8.out⟩
  have hgk:=List.getElem?_eq_getElem hlt
  obtain⟨b1,off,hA,hb1,hcell⟩:=HX.out k xs[k] hgk
  subst hA
  generalize xs[k]=x at *
  have HS:=hide (putU_snoc (n:=n) hgk);have HT:=hide (show ((xs.take (k+1)).any fun y=>decide (n≤y))=(b || decide (n≤x)) by rw[take_snoc_of hgk,List.any_append,←HD.out];simp);clear hgk
  rw[←HD.out] at HS
  have cx:=(HB.out.cell hb1).trans hcell;have lx:=Nat.lt_of_lt_of_le hb1 HB.out.size
  have i1:(k:Int)<(xs.length:Int):=by omega
  cases hbb:b with
  |true=>
   subst hbb;have HS2:=hide (show putU xs n (k+1)=putU xs n k++ [x] from HS.out);clear HS
   go_wp2_with (at_builtin;refine app1_i64 (n:=x) rfl _ _ rfl rfl HO.out rfl hll hsz ?_;intro v8 w8 ho_ hg_ hv_;have HO8:=hide ho_;have HB8:=hide (HB.out.grown hg_ hsz (fun j hj=>(HO.out.lt j hj).1));have hsz8:=HB8.out.size;clear ho_ hg_ hv_)
   go_roundw
   case rel=>exact⟨k+1,true,by omega,by go_num,rfl,by rw[HT.out];all_goals rfl,HS2.out ▸ HO8.out,HB8.out⟩
   case measure=>simp[intOf];omega
  |false=>
   subst hbb
   have HS1:=hide (show putU xs n (k+1)=if n≤x then (if n<x then putU xs n k++ [n]++ [x] else putU xs n k++ [x]) else putU xs n k++ [x] from HS.out);clear HS
   by_cases h1:n≤x
   rotate_left
   ·
    have q1:decide (n≤x)=false:=decide_eq_false h1
    have HS2:=hide (HS1.out.trans (if_neg h1));have HT2:=hide (HT.out.trans (by rw[q1];all_goals rfl));clear HS1 HT h1
    go_wp2_with (at_builtin;refine app1_i64 (n:=x) rfl _ _ rfl rfl HO.out rfl hll hsz ?_;intro v8 w8 ho_ hg_ hv_;have HO8:=hide ho_;have HB8:=hide (HB.out.grown hg_ hsz (fun j hj=>(HO.out.lt j hj).1));have hsz8:=HB8.out.size;clear ho_ hg_ hv_)
    go_roundw
    case rel=>exact⟨k+1,false,by omega,by go_num,rfl,HT2.out.symm,HS2.out ▸ HO8.out,HB8.out⟩
    case measure=>simp[intOf];omega
   have q1:decide (n≤x)=true:=decide_eq_true h1
   have HT2:=hide (HT.out.trans (by rw[q1];all_goals rfl:(false || decide (n≤x))=true));clear HT
   by_cases h2:n<x
   rotate_left
   ·
    have q2:decide (n<x)=false:=decide_eq_false h2
    have HS2:=hide ((HS1.out.trans (if_pos h1)).trans (if_neg h2));clear HS1 h1 h2
    go_wp2_with (at_builtin;refine app1_i64 (n:=x) rfl _ _ rfl rfl HO.out rfl hll hsz ?_;intro v8 w8 ho_ hg_ hv_;have HO8:=hide ho_;have HB8:=hide (HB.out.grown hg_ hsz (fun j hj=>(HO.out.lt j hj).1));have hsz8:=HB8.out.size;clear ho_ hg_ hv_)
    go_roundw
    case rel=>exact⟨k+1,true,by omega,by go_num,rfl,HT2.out.symm,HS2.out ▸ HO8.out,HB8.out⟩
    case measure=>simp[intOf];omega
   have q2:decide (n<x)=true:=decide_eq_true h2
   have HS2:=hide ((HS1.out.trans (if_pos h1)).trans (if_pos h2));clear HS1 h1 h2
   go_wp2_with (first|(at_builtin;refine app1_i64 (n:=x) rfl _ _ rfl rfl HO8.out rfl hl2 hsz8 ?_;intro v9 w9 ho_ hg_ hv_;have HO9:=hide ho_;have HB9:=hide (HB8.out.grown hg_ hsz8 (fun j hj=>(HO8.out.lt j hj).1));have hsz9:=HB9.out.size;clear ho_ hg_ hv_)|(at_builtin;refine app1_i64 (n:=n) rfl _ _ rfl rfl HO.out rfl hll hsz ?_;intro v8 w8 ho_ hg_ hv_;have HO8:=hide ho_;have HB8:=hide (HB.out.grown hg_ hsz (fun j hj=>(HO.out.lt j hj).1));have hsz8:=HB8.out.size;clear ho_ hg_ hv_;have cx8:=(HB8.out.cell hb1).trans hcell;have lx8:=Nat.lt_of_lt_of_le hb1 HB8.out.size))
   go_roundw
   case rel=>exact⟨k+1,true,by omega,by go_num,rfl,HT2.out.symm,HS2.out ▸ HO9.out,HB9.out⟩
   case measure=>simp[intOf];omega
end Go.Proofs.YteiflbhcehajkaaGreat
end
