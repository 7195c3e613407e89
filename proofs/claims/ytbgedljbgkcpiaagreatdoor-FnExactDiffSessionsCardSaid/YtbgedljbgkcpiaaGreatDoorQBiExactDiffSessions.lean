/- Contracts: the changes from the text of a session to that of another one, by both sides. Contracts on whole structs that own their memory. The words of the translation's head, without running through its whole list of roots; and the closed facts of a row out of them. -/
import Derived.Test.YtbgedljbgkcpiaaGreatDoorQAfExactDiffSessions
import Derived.Test.YtbgedljbgkcpiaaGreatDoorQAkExactDiffSessions
import Derived.Test.YtbgedljbgkcpiaaGreatDoorQBcExactDiffSessions
import Derived.Test.YtbgedljbgkcpiaaGreatDoorQBhExactDiffSessions
import Derived.Test.YtbgedljbgkcpiaaGreatDoorQAvExactDiffSessions
import Derived.Test.YtbgedljbgkcpiaaGreatDoorRows
import Derived.ProofKit
set_option linter.unusedVariables false
set_option linter.unusedSimpArgs false
set_option maxHeartbeats 4000000
set_option maxRecDepth 100000
section
namespace Go.Proofs.YtbgedljbgkcpiaaGreatDoor
open Go.RowKit
noncomputable def dsF (x y:GSession):List Chg × Int:=if tf (SessionOk x) && tf (SessionOk y) then (if textB (mkS (sesL x)) && textB (mkS (sesL y)) then (diffF 0 (linesF (mkS (sesL x))) (linesF (mkS (sesL y))),0) else ([],5)) else ([],1)
theorem dsF_no1 {x y:GSession} (h: ¬ SessionOk x):dsF x y=([],1):=by unfold dsF;rw[yU h];rfl
theorem dsF_no2 {x y:GSession} (h: ¬ SessionOk y):dsF x y=([],1):=by unfold dsF;rw[yU h,Bool.and_false];rfl
theorem dsF_yes {x y:GSession} (h:SessionOk x) (k:SessionOk y):dsF x y=if textB (mkS (sesL x)) && textB (mkS (sesL y)) then (diffF 0 (linesF (mkS (sesL x))) (linesF (mkS (sesL y))),0) else ([],5):=by unfold dsF;rw[yV h,yV k];rfl
theorem dsF_len (x y:GSession):(dsF x y).1.length≤400:=by
 unfold dsF
 split
 ·split
  ·next h=>
   simp only[Bool.and_eq_true] at h
   have h1:=text_len h.1;have h2:=text_len h.2
   have:=length_diffF 0 (linesF (mkS (sesL x))) (linesF (mkS (sesL y)))
   show (diffF 0 (linesF (mkS (sesL x))) (linesF (mkS (sesL y)))).length≤400
   omega
  ·simp
 ·simp
theorem ses_size {x:GSession} (h:SessionOk x) (hg:x.good):(mkS (sesL x)).size≤1048576:=by rw[size_mkS];exact ses_len h hg
theorem c_iDS (x y:GSession) (cs ds:List Value) (w:World) (ht:TB w) (gx:x.good) (gy:y.good) (sx:x.small) (sy:y.small) (hx:T.rds w x.fs cs) (hy:T.rds w y.fs ds):Calls Tryz.prog 7 #[.agg cs.toArray,.agg ds.toArray] w fun e w'=> ∃ v',e= .returned (.tuple #[v',.int .i64 (dsF x y).2])∧OwC 71 w' w.heap.size v' (dsF x y).1∧Below w.heap.size w w':=by
 have HX:=hide hx;have HY:=hide hy
 obtain⟨v1,v2,v3,v4,v5,rfl,vr1,vr2,vr3,vr4,vr5⟩:=GSession.yM hx
 obtain⟨va1,vl1,vc1,rfl⟩:=T.yS vr1;clear vr1
 obtain⟨va2,vl2,vc2,rfl⟩:=T.yS vr2;clear vr2
 obtain⟨va3,vl3,vc3,rfl⟩:=T.yS vr3;clear vr3
 obtain⟨va4,vl4,vc4,rfl⟩:=T.yS vr4;clear vr4
 obtain⟨va5,vl5,vc5,rfl⟩:=T.yS vr5;clear vr5
 obtain⟨u1,u2,u3,u4,u5,rfl,ur1,ur2,ur3,ur4,ur5⟩:=GSession.yM hy
 obtain⟨ua1,ul1,uc1,rfl⟩:=T.yS ur1;clear ur1
 obtain⟨ua2,ul2,uc2,rfl⟩:=T.yS ur2;clear ur2
 obtain⟨ua3,ul3,uc3,rfl⟩:=T.yS ur3;clear ur3
 obtain⟨ua4,ul4,uc4,rfl⟩:=T.yS ur4;clear ur4
 obtain⟨ua5,ul5,uc5,rfl⟩:=T.yS ur5;clear ur5
 clear hx hy
 have H0:=hide (show Below w.heap.size w ((w.alloc (.cells #[.int .i64 x.zE,(.slice va1 vl1 vc1),(.slice va2 vl2 vc2),(.slice va3 vl3 vc3),(.slice va4 vl4 vc4),(.slice va5 vl5 vc5)] 41)).alloc (.cells #[.int .i64 y.zE,(.slice ua1 ul1 uc1),(.slice ua2 ul2 uc2),(.slice ua3 ul3 uc3),(.slice ua4 ul4 uc4),(.slice ua5 ul5 uc5)] 41)) from((Below.refl _ _).alloc (Nat.le_refl _) _).alloc (by simp) _)
 have KA:=hide ((Bk.born w 41 #[.int .i64 x.zE,(.slice va1 vl1 vc1),(.slice va2 vl2 vc2),(.slice va3 vl3 vc3),(.slice va4 vl4 vc4),(.slice va5 vl5 vc5)]).alloc (.cells #[.int .i64 y.zE,(.slice ua1 ul1 uc1),(.slice ua2 ul2 uc2),(.slice ua3 ul3 uc3),(.slice ua4 ul4 uc4),(.slice ua5 ul5 uc5)] 41))
 have KB:=hide (Bk.born1' w (.cells #[.int .i64 x.zE,(.slice va1 vl1 vc1),(.slice va2 vl2 vc2),(.slice va3 vl3 vc3),(.slice va4 vl4 vc4),(.slice va5 vl5 vc5)] 41) 41 #[.int .i64 y.zE,(.slice ua1 ul1 uc1),(.slice ua2 ul2 uc2),(.slice ua3 ul3 uc3),(.slice ua4 ul4 uc4),(.slice ua5 ul5 uc5)])
 have HTB:=hide ht;clear ht
 by_cases hv:SessionOk x
 rotate_left
 ·
  rw[dsF_no1 hv]
  have HV:=hide (yU hv);clear hv
  go_enter Tryz.func7,Tryz.ntmps7
  go_wp2_with fail
  refine(c_isSession x _ _ sx (T.rds_below HX.out H0.out)).mono ?_;rintro e w1 ⟨rfl,hb⟩
  have H1:=hide (yH H0.out H0.out.size hb)
  replace KA:=hide (KA.out.below hb KA.out.lt)
  replace KB:=hide (KB.out.below hb KB.out.lt)
  clear hb;have ka:=KA.out.cell;have kb:=KB.out.cell;have la:=KA.out.lt;have lb:=KB.out.lt
  rw[HV.out]
  go_wp2
  go_ret2
  exact⟨_,rfl,OwG.nil_ chgV_len _ _ _,H1.out⟩
 by_cases hu:SessionOk y
 rotate_left
 ·
  rw[dsF_no2 hu]
  have HV:=hide (yV hv);have HU:=hide (yU hu);clear hv hu
  go_enter Tryz.func7,Tryz.ntmps7
  go_wp2_with fail
  refine(c_isSession x _ _ sx (T.rds_below HX.out H0.out)).mono ?_;rintro e w1 ⟨rfl,hb⟩
  have H1:=hide (yH H0.out H0.out.size hb)
  replace KA:=hide (KA.out.below hb KA.out.lt)
  replace KB:=hide (KB.out.below hb KB.out.lt)
  clear hb;have ka:=KA.out.cell;have kb:=KB.out.cell;have la:=KA.out.lt;have lb:=KB.out.lt
  rw[HV.out]
  go_wp2_with fail
  refine(c_isSession y _ _ sy (T.rds_below HY.out H1.out)).mono ?_;rintro e w2 ⟨rfl,hb⟩
  have H2:=hide (yH H1.out H1.out.size hb)
  replace KA:=hide (KA.out.below hb KA.out.lt)
  replace KB:=hide (KB.out.below hb KB.out.lt)
  clear hb ka kb la lb;have ka:=KA.out.cell;have kb:=KB.out.cell;have la:=KA.out.lt;have lb:=KB.out.lt
  rw[HU.out]
  go_wp2
  go_ret2
  exact⟨_,rfl,OwG.nil_ chgV_len _ _ _,H2.out⟩
 rw[dsF_yes hv hu]
 have HV:=hide (yV hv);have HU:=hide (yV hu)
 have ha:=ses_size hv gx;have hb0:=ses_size hu gy
 have HAX:=hide (fun(W:World) (cs:List Value) (ht:TB W) (h:T.rds W x.fs cs)=>c_sessionText x cs W hv gx sx ht h)
 have HAY:=hide (fun(W:World) (cs:List Value) (ht:TB W) (h:T.rds W y.fs cs)=>c_sessionText y cs W hu gy sy ht h)
 generalize mkS (sesL x)=a at *;generalize mkS (sesL y)=b at *
 clear hv hu
 cases hta:textB a
 ·
  have HA:=hide hta;clear hta
  simp only[Bool.false_and,Bool.false_eq_true,if_false]
  go_enter Tryz.func7,Tryz.ntmps7
  go_wp2_with fail
  refine(c_isSession x _ _ sx (T.rds_below HX.out H0.out)).mono ?_;rintro e w1 ⟨rfl,hb⟩
  have H1:=hide (yH H0.out H0.out.size hb)
  replace KA:=hide (KA.out.below hb KA.out.lt)
  replace KB:=hide (KB.out.below hb KB.out.lt)
  clear hb;have ka:=KA.out.cell;have kb:=KB.out.cell;have la:=KA.out.lt;have lb:=KB.out.lt
  rw[HV.out]
  go_wp2_with fail
  refine(c_isSession y _ _ sy (T.rds_below HY.out H1.out)).mono ?_;rintro e w2 ⟨rfl,hb⟩
  have H2:=hide (yH H1.out H1.out.size hb)
  replace KA:=hide (KA.out.below hb KA.out.lt)
  replace KB:=hide (KB.out.below hb KB.out.lt)
  clear hb ka kb la lb;have ka:=KA.out.cell;have kb:=KB.out.cell;have la:=KA.out.lt;have lb:=KB.out.lt
  rw[HU.out]
  go_wp2_with fail
  have g0:=yZ KA.out;have g1:=yZ KB.out
  refine yY (by kernel_rfl) (by kernel_rfl) ?_
  repeat(first|go_big_quiet_skip|(go_big_quiet_want;go_big_quiet_op;first|go_big_quiet_on|(apply Exists.intro;refine⟨fun _=>?_,?_⟩;(· (first|(go_at_call_of 28 (Value.agg #[.int .i64 x.zE,(.slice va1 vl1 vc1),(.slice va2 vl2 vc2),(.slice va3 vl3 vc3),(.slice va4 vl4 vc4),(.slice va5 vl5 vc5)]);exact Calls.yJ (HAX.out _ _ (HTB.out.below (yH H2.out H2.out.size (yF w2 _))) (T.rds_below HX.out (yH H2.out H2.out.size (yF w2 _)))))|(go_at_call_of 28 (Value.agg #[.int .i64 y.zE,(.slice ua1 ul1 uc1),(.slice ua2 ul2 uc2),(.slice ua3 ul3 uc3),(.slice ua4 ul4 uc4),(.slice ua5 ul5 uc5)]);exact Calls.yJ (HAY.out _ _ (HTB.out.below (yH H2.out H2.out.size (yF w2 _))) (T.rds_below HY.out (yH H2.out H2.out.size (yF w2 _)))))));go_big_quiet_on)))
  refine wpQuiet_nil ?_
  rintro w3 ⟨uu,rfl⟩
  have hb:=yF w2 uu
  generalize bel w2 uu=w3 at *
  clear g0 g1
  have H3:=hide (yH H2.out H2.out.size hb)
  replace KA:=hide (KA.out.below hb KA.out.lt)
  replace KB:=hide (KB.out.below hb KB.out.lt)
  clear hb ka kb la lb;have ka:=KA.out.cell;have kb:=KB.out.cell;have la:=KA.out.lt;have lb:=KB.out.lt
  go_wp2_with fail
  refine(c_isText a _ ha).mono ?_;rintro e _ ⟨rfl,rfl⟩;rw[HA.out]
  go_wp2
  go_ret2
  exact⟨_,rfl,OwG.nil_ chgV_len _ _ _,H3.out⟩
 cases htb:textB b
 ·
  have HA:=hide hta;have HT:=hide htb;clear hta htb
  simp only[Bool.true_and,Bool.false_eq_true,if_false]
  go_enter Tryz.func7,Tryz.ntmps7
  go_wp2_with fail
  refine(c_isSession x _ _ sx (T.rds_below HX.out H0.out)).mono ?_;rintro e w1 ⟨rfl,hb⟩
  have H1:=hide (yH H0.out H0.out.size hb)
  replace KA:=hide (KA.out.below hb KA.out.lt)
  replace KB:=hide (KB.out.below hb KB.out.lt)
  clear hb;have ka:=KA.out.cell;have kb:=KB.out.cell;have la:=KA.out.lt;have lb:=KB.out.lt
  rw[HV.out]
  go_wp2_with fail
  refine(c_isSession y _ _ sy (T.rds_below HY.out H1.out)).mono ?_;rintro e w2 ⟨rfl,hb⟩
  have H2:=hide (yH H1.out H1.out.size hb)
  replace KA:=hide (KA.out.below hb KA.out.lt)
  replace KB:=hide (KB.out.below hb KB.out.lt)
  clear hb ka kb la lb;have ka:=KA.out.cell;have kb:=KB.out.cell;have la:=KA.out.lt;have lb:=KB.out.lt
  rw[HU.out]
  go_wp2_with fail
  have g0:=yZ KA.out;have g1:=yZ KB.out
  refine yY (by kernel_rfl) (by kernel_rfl) ?_
  repeat(first|go_big_quiet_skip|(go_big_quiet_want;go_big_quiet_op;first|go_big_quiet_on|(apply Exists.intro;refine⟨fun _=>?_,?_⟩;(· (first|(go_at_call_of 28 (Value.agg #[.int .i64 x.zE,(.slice va1 vl1 vc1),(.slice va2 vl2 vc2),(.slice va3 vl3 vc3),(.slice va4 vl4 vc4),(.slice va5 vl5 vc5)]);exact Calls.yJ (HAX.out _ _ (HTB.out.below (yH H2.out H2.out.size (yF w2 _))) (T.rds_below HX.out (yH H2.out H2.out.size (yF w2 _)))))|(go_at_call_of 28 (Value.agg #[.int .i64 y.zE,(.slice ua1 ul1 uc1),(.slice ua2 ul2 uc2),(.slice ua3 ul3 uc3),(.slice ua4 ul4 uc4),(.slice ua5 ul5 uc5)]);exact Calls.yJ (HAY.out _ _ (HTB.out.below (yH H2.out H2.out.size (yF w2 _))) (T.rds_below HY.out (yH H2.out H2.out.size (yF w2 _)))))));go_big_quiet_on)))
  refine wpQuiet_nil ?_
  rintro w3 ⟨uu,rfl⟩
  have hb:=yF w2 uu
  generalize bel w2 uu=w3 at *
  clear g0 g1
  have H3:=hide (yH H2.out H2.out.size hb)
  replace KA:=hide (KA.out.below hb KA.out.lt)
  replace KB:=hide (KB.out.below hb KB.out.lt)
  clear hb ka kb la lb;have ka:=KA.out.cell;have kb:=KB.out.cell;have la:=KA.out.lt;have lb:=KB.out.lt
  go_wp2_with fail
  refine(c_isText a _ ha).mono ?_;rintro e _ ⟨rfl,rfl⟩;rw[HA.out]
  go_wp2_with fail
  refine(c_isText b _ hb0).mono ?_;rintro e _ ⟨rfl,rfl⟩;rw[HT.out]
  go_wp2
  go_ret2
  exact⟨_,rfl,OwG.nil_ chgV_len _ _ _,H3.out⟩
 have hla:=text_len hta;have hlb:=text_len htb
 have HA:=hide hta;have HT:=hide htb;clear hta htb
 simp only[Bool.true_and,if_true]
 have HLA:=hide (c_lines2 a · ha);have HLB:=hide (c_lines2 b · hb0)
 generalize linesF a=la0 at *
 generalize linesF b=lb0 at *
 go_enter Tryz.func7,Tryz.ntmps7
 go_wp2_with fail
 refine(c_isSession x _ _ sx (T.rds_below HX.out H0.out)).mono ?_;rintro e w1 ⟨rfl,hb⟩
 have H1:=hide (yH H0.out H0.out.size hb)
 replace KA:=hide (KA.out.below hb KA.out.lt)
 replace KB:=hide (KB.out.below hb KB.out.lt)
 clear hb;have ka:=KA.out.cell;have kb:=KB.out.cell;have la:=KA.out.lt;have lb:=KB.out.lt
 rw[HV.out]
 go_wp2_with fail
 refine(c_isSession y _ _ sy (T.rds_below HY.out H1.out)).mono ?_;rintro e w2 ⟨rfl,hb⟩
 have H2:=hide (yH H1.out H1.out.size hb)
 replace KA:=hide (KA.out.below hb KA.out.lt)
 replace KB:=hide (KB.out.below hb KB.out.lt)
 clear hb ka kb la lb;have ka:=KA.out.cell;have kb:=KB.out.cell;have la:=KA.out.lt;have lb:=KB.out.lt
 rw[HU.out]
 go_wp2_with fail
 have g0:=yZ KA.out;have g1:=yZ KB.out
 refine yY (by kernel_rfl) (by kernel_rfl) ?_
 repeat(first|go_big_quiet_skip|(go_big_quiet_want;go_big_quiet_op;first|go_big_quiet_on|(apply Exists.intro;refine⟨fun _=>?_,?_⟩;(· (first|(go_at_call_of 28 (Value.agg #[.int .i64 x.zE,(.slice va1 vl1 vc1),(.slice va2 vl2 vc2),(.slice va3 vl3 vc3),(.slice va4 vl4 vc4),(.slice va5 vl5 vc5)]);exact Calls.yJ (HAX.out _ _ (HTB.out.below (yH H2.out H2.out.size (yF w2 _))) (T.rds_below HX.out (yH H2.out H2.out.size (yF w2 _)))))|(go_at_call_of 28 (Value.agg #[.int .i64 y.zE,(.slice ua1 ul1 uc1),(.slice ua2 ul2 uc2),(.slice ua3 ul3 uc3),(.slice ua4 ul4 uc4),(.slice ua5 ul5 uc5)]);exact Calls.yJ (HAY.out _ _ (HTB.out.below (yH H2.out H2.out.size (yF w2 _))) (T.rds_below HY.out (yH H2.out H2.out.size (yF w2 _)))))));go_big_quiet_on)))
 refine wpQuiet_nil ?_
 rintro w3 ⟨uu,rfl⟩
 have hb:=yF w2 uu
 generalize bel w2 uu=w3 at *
 clear g0 g1
 have H3:=hide (yH H2.out H2.out.size hb)
 replace KA:=hide (KA.out.below hb KA.out.lt)
 replace KB:=hide (KB.out.below hb KB.out.lt)
 clear hb ka kb la lb;have ka:=KA.out.cell;have kb:=KB.out.cell;have la:=KA.out.lt;have lb:=KB.out.lt
 go_wp2_with fail
 refine(c_isText a _ ha).mono ?_;rintro e _ ⟨rfl,rfl⟩;rw[HA.out]
 go_wp2_with fail
 refine(c_isText b _ hb0).mono ?_;rintro e _ ⟨rfl,rfl⟩;rw[HT.out]
 clear ka kb la lb
 go_wp2_with fail
 refine(HLA.out _).mono ?_;rintro e x2 ⟨cap1,hc1,rfl,ho1,hb1⟩
 have hs1:=hb1.size
 have HO1:=hide (ho1.more H3.out.size);have HB1:=hide (yH H3.out H3.out.size hb1);clear ho1 hb1
 go_wp2_with fail
 refine(HLB.out _).mono ?_;rintro e x3 ⟨cap2,hc2,rfl,ho2,hb2⟩
 have hs2:=hb2.size
 have HO2:=hide ho2;have HO3:=hide (HO1.out.all hb2);have HB2:=hide (yH HB1.out HB1.out.size hb2);clear ho2 hb2
 go_wp2_with fail
 refine(c_diff _ _ la0 lb0 _ HO3.out.rd HO2.out.rd hla hlb).mono ?_;rintro e x4 ⟨vd,rfl,ho4,hb4⟩
 have HO4:=hide (ho4.more HB2.out.size);have HB4:=hide (yH HB2.out HB2.out.size hb4);clear ho4 hb4
 go_wp2
 go_ret2
 exact⟨_,rfl,HO4.out,HB4.out⟩
theorem c_sDS (x y:GSession) (cs ds:List Value) (w:World) (gx:x.good) (gy:y.good) (sx:x.small) (sy:y.small) (hx:T.rds w x.fs cs) (hy:T.rds w y.fs ds):Calls Tryz.prog 5 #[.agg cs.toArray,.agg ds.toArray] w fun e w'=> ∃ v',e= .returned (.tuple #[v',.int .i64 (dsF x y).2])∧OwC 71 w' w.heap.size v' (dsF x y).1∧Below w.heap.size w w':=by
 have HX:=hide hx;have HY:=hide hy
 obtain⟨v1,v2,v3,v4,v5,rfl,vr1,vr2,vr3,vr4,vr5⟩:=GSession.yM hx
 obtain⟨va1,vl1,vc1,rfl⟩:=T.yS vr1;clear vr1
 obtain⟨va2,vl2,vc2,rfl⟩:=T.yS vr2;clear vr2
 obtain⟨va3,vl3,vc3,rfl⟩:=T.yS vr3;clear vr3
 obtain⟨va4,vl4,vc4,rfl⟩:=T.yS vr4;clear vr4
 obtain⟨va5,vl5,vc5,rfl⟩:=T.yS vr5;clear vr5
 obtain⟨u1,u2,u3,u4,u5,rfl,ur1,ur2,ur3,ur4,ur5⟩:=GSession.yM hy
 obtain⟨ua1,ul1,uc1,rfl⟩:=T.yS ur1;clear ur1
 obtain⟨ua2,ul2,uc2,rfl⟩:=T.yS ur2;clear ur2
 obtain⟨ua3,ul3,uc3,rfl⟩:=T.yS ur3;clear ur3
 obtain⟨ua4,ul4,uc4,rfl⟩:=T.yS ur4;clear ur4
 obtain⟨ua5,ul5,uc5,rfl⟩:=T.yS ur5;clear ur5
 clear hx hy
 have H0:=hide (show Below w.heap.size w ((w.alloc (.cells #[.int .i64 x.zE,(.slice va1 vl1 vc1),(.slice va2 vl2 vc2),(.slice va3 vl3 vc3),(.slice va4 vl4 vc4),(.slice va5 vl5 vc5)] 41)).alloc (.cells #[.int .i64 y.zE,(.slice ua1 ul1 uc1),(.slice ua2 ul2 uc2),(.slice ua3 ul3 uc3),(.slice ua4 ul4 uc4),(.slice ua5 ul5 uc5)] 41)) from((Below.refl _ _).alloc (Nat.le_refl _) _).alloc (by simp) _)
 have KA:=hide ((Bk.born w 41 #[.int .i64 x.zE,(.slice va1 vl1 vc1),(.slice va2 vl2 vc2),(.slice va3 vl3 vc3),(.slice va4 vl4 vc4),(.slice va5 vl5 vc5)]).alloc (.cells #[.int .i64 y.zE,(.slice ua1 ul1 uc1),(.slice ua2 ul2 uc2),(.slice ua3 ul3 uc3),(.slice ua4 ul4 uc4),(.slice ua5 ul5 uc5)] 41))
 have KB:=hide (Bk.born1' w (.cells #[.int .i64 x.zE,(.slice va1 vl1 vc1),(.slice va2 vl2 vc2),(.slice va3 vl3 vc3),(.slice va4 vl4 vc4),(.slice va5 vl5 vc5)] 41) 41 #[.int .i64 y.zE,(.slice ua1 ul1 uc1),(.slice ua2 ul2 uc2),(.slice ua3 ul3 uc3),(.slice ua4 ul4 uc4),(.slice ua5 ul5 uc5)])
 by_cases hv:SessionOk x
 rotate_left
 ·
  rw[dsF_no1 hv]
  have HV:=hide (yU hv);clear hv
  go_enter Tryz.func5,Tryz.ntmps5
  go_wp2_with fail
  refine(c_l27Ok x _ _ _ sx (T.at_bk KA.out (T.rds_below HX.out H0.out))).mono ?_;rintro e w1 ⟨rfl,hb⟩
  have H1:=hide (yH H0.out H0.out.size hb)
  replace KA:=hide (KA.out.below hb KA.out.lt)
  replace KB:=hide (KB.out.below hb KB.out.lt)
  clear hb;have ka:=KA.out.cell;have kb:=KB.out.cell;have la:=KA.out.lt;have lb:=KB.out.lt
  rw[HV.out]
  go_wp2
  go_ret2
  exact⟨_,rfl,OwG.nil_ chgV_len _ _ _,H1.out⟩
 by_cases hu:SessionOk y
 rotate_left
 ·
  rw[dsF_no2 hu]
  have HV:=hide (yV hv);have HU:=hide (yU hu);clear hv hu
  go_enter Tryz.func5,Tryz.ntmps5
  go_wp2_with fail
  refine(c_l27Ok x _ _ _ sx (T.at_bk KA.out (T.rds_below HX.out H0.out))).mono ?_;rintro e w1 ⟨rfl,hb⟩
  have H1:=hide (yH H0.out H0.out.size hb)
  replace KA:=hide (KA.out.below hb KA.out.lt)
  replace KB:=hide (KB.out.below hb KB.out.lt)
  clear hb;have ka:=KA.out.cell;have kb:=KB.out.cell;have la:=KA.out.lt;have lb:=KB.out.lt
  rw[HV.out]
  go_wp2_with fail
  refine(c_l27Ok y _ _ _ sy (T.at_bk KB.out (T.rds_below HY.out H1.out))).mono ?_;rintro e w2 ⟨rfl,hb⟩
  have H2:=hide (yH H1.out H1.out.size hb)
  replace KA:=hide (KA.out.below hb KA.out.lt)
  replace KB:=hide (KB.out.below hb KB.out.lt)
  clear hb ka kb la lb;have ka:=KA.out.cell;have kb:=KB.out.cell;have la:=KA.out.lt;have lb:=KB.out.lt
  rw[HU.out]
  go_wp2
  go_ret2
  exact⟨_,rfl,OwG.nil_ chgV_len _ _ _,H2.out⟩
 rw[dsF_yes hv hu]
 have HV:=hide (yV hv);have HU:=hide (yV hu)
 have ha:=ses_size hv gx;have hb0:=ses_size hu gy
 have HAX:=hide (fun(W:World) (b o:Nat) (h:T.at W x.fs b o)=>c_l32Text x b o W hv gx sx h)
 have HAY:=hide (fun(W:World) (b o:Nat) (h:T.at W y.fs b o)=>c_l32Text y b o W hu gy sy h)
 generalize mkS (sesL x)=a at *;generalize mkS (sesL y)=b at *
 clear hv hu
 have hf:(if textB a && textB b then (diffF 0 (linesF a) (linesF b),0) else ([],5):List Chg × Int)=if textB a && textB b then (diffF 0 (if textB a then linesF a else []) (if textB b then linesF b else []),0) else ([],5):=by cases textB a<;>cases textB b<;>rfl
 rw[hf];clear hf
 have hla2:(if textB a then linesF a else []).length≤200:=by
  split
  ·next h=>exact text_len h
  ·simp
 have hlb2:(if textB b then linesF b else []).length≤200:=by
  split
  ·next h=>exact text_len h
  ·simp
 have HLA:=hide (fun W=>cs_L a _ _ W ha ⟨rfl,rfl⟩);have HLB:=hide (fun W=>cs_L b _ _ W hb0 ⟨rfl,rfl⟩)
 generalize (if textB a then linesF a else [])=la0 at *;generalize (if textB b then linesF b else [])=lb0 at *
 generalize textB a=ta at *;generalize textB b=tb at *
 go_enter Tryz.func5,Tryz.ntmps5
 go_wp2_with fail
 refine(c_l27Ok x _ _ _ sx (T.at_bk KA.out (T.rds_below HX.out H0.out))).mono ?_;rintro e w1 ⟨rfl,hb⟩
 have H1:=hide (yH H0.out H0.out.size hb)
 replace KA:=hide (KA.out.below hb KA.out.lt)
 replace KB:=hide (KB.out.below hb KB.out.lt)
 clear hb;have ka:=KA.out.cell;have kb:=KB.out.cell;have la:=KA.out.lt;have lb:=KB.out.lt
 rw[HV.out]
 go_wp2_with fail
 refine(c_l27Ok y _ _ _ sy (T.at_bk KB.out (T.rds_below HY.out H1.out))).mono ?_;rintro e w2 ⟨rfl,hb⟩
 have H2:=hide (yH H1.out H1.out.size hb)
 replace KA:=hide (KA.out.below hb KA.out.lt)
 replace KB:=hide (KB.out.below hb KB.out.lt)
 clear hb ka kb la lb;have ka:=KA.out.cell;have kb:=KB.out.cell;have la:=KA.out.lt;have lb:=KB.out.lt
 rw[HU.out]
 go_wp2_with fail
 refine(HAX.out _ _ _ (T.at_bk KA.out (T.rds_below HX.out H2.out))).mono ?_;rintro e w3 ⟨rfl,hb⟩
 have H3:=hide (yH H2.out H2.out.size hb)
 replace KA:=hide (KA.out.below hb KA.out.lt)
 replace KB:=hide (KB.out.below hb KB.out.lt)
 clear hb ka kb la lb;have ka:=KA.out.cell;have kb:=KB.out.cell;have la:=KA.out.lt;have lb:=KB.out.lt
 clear ka kb la lb
 go_wp2_with fail
 refine(HLA.out _).mono ?_;rintro e x2 ⟨v1,rfl,ho1,hb1⟩
 have hs1:=hb1.size
 have HO1:=hide (ho1.more H3.out.size);have HB1:=hide (yH H3.out H3.out.size hb1);replace KB:=hide (KB.out.below hb1 KB.out.lt);clear ho1 hb1
 have kb:=KB.out.cell;have lb:=KB.out.lt
 go_wp2_with fail
 refine(HAY.out _ _ _ (T.at_bk KB.out (T.rds_below HY.out HB1.out))).mono ?_;rintro e x3 ⟨rfl,hb2⟩
 replace HO1:=hide (HO1.out.all hb2);replace HB1:=hide (yH HB1.out HB1.out.size hb2);clear hb2 kb lb
 go_wp2_with fail
 refine(HLB.out _).mono ?_;rintro e x4 ⟨v2,rfl,ho2,hb2⟩
 have HO2:=hide ho2;have HO3:=hide (HO1.out.all hb2);have HB2:=hide (yH HB1.out HB1.out.size hb2);clear ho2 hb2
 cases ta<;>cases tb
 case true.true=>
  go_wp2_with fail
  refine(c_l32Diff _ _ la0 lb0 _ HO3.out.rd HO2.out.rd hla2 hlb2).mono ?_;rintro e w4 ⟨vd,rfl,ho4,hb4⟩
  have HO4:=hide (ho4.more HB2.out.size);have HB4:=hide (yH HB2.out HB2.out.size hb4);clear ho4 hb4
  go_wp2
  go_ret2
  exact⟨_,rfl,HO4.out,HB4.out⟩
 all_goals
  go_wp2
  go_ret2
  exact⟨_,rfl,OwG.nil_ chgV_len _ _ _,HB2.out⟩
end Go.Proofs.YtbgedljbgkcpiaaGreatDoor
end
section
namespace Go.Proofs.YtbgedljbgkcpiaaGreatDoor
open Go.RowKit
theorem cntL_bd {α:Type} {c:α→Nat} {B:Nat} : ∀ {xs:List α},(∀ x ∈ xs,c x≤B)→cntL c xs≤xs.length * B
 | [],_=>by simp[cntL]
 |x :: r,h=>by
  have h1:=h x (by simp)
  have h2:=cntL_bd (xs:=r) (fun y hy=>h y (by simp[hy]))
  simp only[cntL,List.length_cons,Nat.add_mul]
  omega
theorem cntL_le2 {α:Type} {c:α→Nat} {B N:Nat} {xs:List α} (h: ∀ x ∈ xs,c x≤B) (hl:xs.length≤N):cntL c xs≤N * B:=
 Nat.le_trans (cntL_bd h) (Nat.mul_le_mul_right B hl)
theorem GTrack.cnt_le {x:GTrack} (h:x.small):x.cnt≤5242880:=by
 have b0:=cntL_le2 (c:=GClip.cnt) (xs:=x.zR) (B:=5) (N:=1048576) (fun y _=>Nat.le_refl _) h
 unfold GTrack.cnt
 omega
theorem GNode.cnt_le {x:GNode} (h:x.small):x.cnt≤1048579:=by
 have b3:x.zG.length≤1048576:=h
 unfold GNode.cnt
 omega
theorem GPatch.cnt_le {x:GPatch} (h:x.small):x.cnt≤2199027449857:=by
 have b1:=cntL_le2 (c:=List.length) (B:=1048576) (N:=1048576) h.1.2 h.1.1
 have b2:=cntL_le2 (c:=GNode.cnt) (B:=1048579) (N:=1048576) (fun y hy=>GNode.cnt_le (h.2.1.2 y hy)) h.2.1.1
 have b3:x.zK.length≤1048576:=h.2.2
 unfold GPatch.cnt
 omega
theorem GStrip.cnt_le {x:GStrip} (h:x.small):x.cnt≤2097154:=by
 have b2:=cntL_le2 (c:=GSend.cnt) (xs:=x.yA) (B:=2) (N:=1048576) (fun y _=>Nat.le_refl _) h.2
 unfold GStrip.cnt
 omega
theorem bo_toSession (x:GSession) (cs:List Value) (w:World) (hs:x.small) (h:T.rds w x.fs cs):Calls Tryz.prog 6 #[.agg cs.toArray] w fun e w'=> ∃ ds F,e= .returned (.agg ds.toArray)∧Nw w w' x.fs F ds:=by
 obtain⟨v1,v2,v3,v4,v5,rfl,h1,h2,h3,h4,h5⟩:=GSession.yM h
 refine(c_toSession x _ _ _ _ _ w hs h1 h2 h3 h4 h5).mono ?_
 rintro e w' ⟨u1,F1,u2,F2,u3,F3,u4,F4,u5,F5,rfl,o1,o2,o3,o4,o5,sg,hb⟩
 have ha:=sg.all
 simp only[List.flatten_cons,List.flatten_nil] at ha
 exact⟨_,_,rfl,GSession.ow_mk o1 o2 o3 o4 o5,ha.1,fun b hb=>(ha.2 b hb).1,hb⟩
theorem bo_markSession (x:GSession) (cs:List Value) (F:List Nat) (m:Nat) (w:World) (h0:0<m) (hm:m+x.cntv≤4611686018427387904) (h:T.ows w x.fs F cs) (hn:F.Nodup):Calls Tryz.prog 10 #[.agg cs.toArray,.int .i64 (m:Int)] w fun e w'=>e= .returned (.int .i64 ((m+x.cntv:Nat):Int))∧T.ows w' (x.mkv m).fs F cs∧Trn F w w':=by
 obtain⟨v1,v2,v3,v4,v5,F1,F2,F3,F4,F5,rfl,rfl,h1,h2,h3,h4,h5⟩:=GSession.ow_open h
 refine(c_markSession x _ _ _ _ _ _ _ _ _ _ m w h0 hm h1 h2 h3 h4 h5 hn).mono ?_
 rintro e w' ⟨rfl,o1,o2,o3,o4,o5,ht⟩
 exact⟨rfl,GSession.ow_mk (x:=x.mkv m) o1 o2 o3 o4 o5,ht⟩
end Go.Proofs.YtbgedljbgkcpiaaGreatDoor
end
section
namespace Go.Proofs.YtbgedljbgkcpiaaGreatDoor
open Go.ChangeShapes
theorem words_pre: ∀ (a r:List Char),(a.all fun c=>c != Char.ofNat 32)=true→wordsSigns (a++Char.ofNat 32 :: r)=a :: wordsSigns r
 | [],r,_=>rfl
 |c :: a,r,h=>by
  simp only[List.all_cons,Bool.and_eq_true,bne_iff_ne,ne_eq] at h
  have ih:=words_pre a r (by simpa using h.2)
  rw[List.cons_append]
  conv=>lhs;unfold wordsSigns
  split
  ·rename_i e;cases e
  ·rename_i e
   injection e with e1 _
   exact absurd e1 h.1
  ·rename_i e
   injection e with e1 e2
   subst e1 e2
   rw[ih]
theorem head_list: ∃ l,Tryz.prog.initOrder=String.ofList l∧("harness d652fad26b3d6069962d69c52e2dc6eb51dec87b9f0487dfd6d58f93948a41f8 cut ".toList).isPrefixOf l=true:=by
 refine⟨_,rfl,?_⟩
 kernel_rfl
theorem head_words: ∃ X,wordsSigns Tryz.prog.initOrder.toList= "harness".toList :: "d652fad26b3d6069962d69c52e2dc6eb51dec87b9f0487dfd6d58f93948a41f8".toList :: "cut".toList :: X:=by
 obtain⟨l,hl,hp⟩:=head_list
 obtain⟨r,hr⟩:=List.isPrefixOf_iff_prefix.1 hp
 have e: "harness d652fad26b3d6069962d69c52e2dc6eb51dec87b9f0487dfd6d58f93948a41f8 cut ".toList= "harness".toList++Char.ofNat 32 :: ("d652fad26b3d6069962d69c52e2dc6eb51dec87b9f0487dfd6d58f93948a41f8".toList++Char.ofNat 32 :: ("cut".toList++ [Char.ofNat 32])):=by kernel_rfl
 refine⟨wordsSigns r,?_⟩
 rw[hl,String.toList_ofList,←hr,e]
 simp only[List.append_assoc,List.cons_append,List.nil_append]
 rw[words_pre _ _ (by kernel_rfl),words_pre _ _ (by kernel_rfl),words_pre _ _ (by kernel_rfl)]
theorem behind: ∃ X,behindMainWord (wordsSigns Tryz.prog.initOrder.toList)= "cut".toList :: X:=by
 obtain⟨X,hX⟩:=head_words
 refine⟨X,?_⟩
 rw[hX]
 have e1:("harness".toList == "harness".toList || "harness".toList == "ownmain".toList)=true:=by kernel_rfl
 have e2:isSumSigns "d652fad26b3d6069962d69c52e2dc6eb51dec87b9f0487dfd6d58f93948a41f8".toList=true:=by kernel_rfl
 unfold behindMainWord
 dsimp only
 rw[e1,e2];rfl
section
variable {P:Program} {X:List (List Char)}
theorem make_of (hX:behindMainWord (wordsSigns P.initOrder.toList)= "cut".toList :: X):P.make=some .cut:=by
 unfold Program.make
 rw[hX];rfl
theorem lifts_of (X:List (List Char)):stripLifts liftWords ("cut".toList :: X)=([], "cut".toList :: X):=rfl
theorem headLifts_of (hX:behindMainWord (wordsSigns P.initOrder.toList)= "cut".toList :: X):P.headLifts= []:=by
 unfold Program.headLifts
 rw[hX,lifts_of];rfl
theorem liftsFinal_of (hX:behindMainWord (wordsSigns P.initOrder.toList)= "cut".toList :: X):P.liftsFinal=false:=by
 unfold Program.liftsFinal
 rw[hX,headLifts_of hX];rfl
theorem mayEnter_of (hX:behindMainWord (wordsSigns P.initOrder.toList)= "cut".toList :: X) (h1:P.laysLater=false) (h2:P.bearsReflect=false) (h3:P.doorFits []=true):P.mayEnter=true:=by
 unfold Program.mayEnter
 rw[hX]
 dsimp only
 rw[lifts_of,h1,h2,h3]
 rfl
end
theorem make_is:Tryz.prog.make=some .cut:=by
 obtain⟨X,hX⟩:=behind
 exact make_of hX
theorem liftsFinal_is:Tryz.prog.liftsFinal=false:=by
 obtain⟨X,hX⟩:=behind
 exact liftsFinal_of hX
theorem mayEnter_is:Tryz.prog.mayEnter=true:=by
 obtain⟨X,hX⟩:=behind
 exact mayEnter_of hX (by kernel_rfl) (by kernel_rfl) (by kernel_rfl)
theorem laidOut_is:laidOutB Tryz.prog=true:=by kernel_rfl
theorem own_is:ownKnob Tryz.prog.godebug=none:=by kernel_rfl
end Go.Proofs.YtbgedljbgkcpiaaGreatDoor
end
