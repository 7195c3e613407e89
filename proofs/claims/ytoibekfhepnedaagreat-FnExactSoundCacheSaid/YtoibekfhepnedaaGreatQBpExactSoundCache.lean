/- The law SoundCache. -/
import Derived.Test.YtoibekfhepnedaaGreatQAgExactSoundCache
import Derived.Test.YtoibekfhepnedaaGreatQBoExactSoundCache
import Derived.Deep.RegionHeld3
set_option linter.unusedVariables false
set_option linter.unusedSimpArgs false
set_option maxHeartbeats 4000000
set_option maxRecDepth 100000
namespace Go.Proofs.YtoibekfhepnedaaGreat
open Go.RowKit
theorem b_szCache (x:GCache) (cs:List Value) (n:Int) (w:World) (hn:0≤n) (hm:n≤1048576) (hg:x.good) (h:T.rds w x.fs cs):Calls Tryz.prog 19 #[.agg cs.toArray,.int .i64 n] w fun e w'=> ∃ m:Int,e= .returned (.int .i64 m)∧ -1≤m∧m≤n∧(0≤m→x.small)∧Below w.heap.size w w':=by
 obtain⟨v1,v2,v3,v4,v5,v6,v7,rfl,h1,h2,h3,h4,h5,h6,h7⟩:=GCache.yN h
 exact c_szCache x _ _ _ _ _ _ _ n w hn hm hg h1 h2 h3 h4 h5 h6 h7
theorem law_SoundCache (x:GCache) (cs:List Value) (w:World) (hx:T.rds w x.fs cs) (gx:x.good):Calls Tryz.prog 5 #[.agg cs.toArray] w fun e w'=>e= .returned (.bool true)∧Below w.heap.size w w':=by
 have HX:=hide hx
 obtain⟨v1,v2,v3,v4,v5,v6,v7,rfl,vr1,vr2,vr3,vr4,vr5,vr6,vr7⟩:=GCache.yN hx
 obtain⟨va1,vl1,vc1,rfl⟩:=T.yT vr1;clear vr1
 obtain⟨va2,vl2,vc2,rfl⟩:=T.yT vr2;clear vr2
 obtain⟨va3,vl3,vc3,rfl⟩:=T.yT vr3;clear vr3
 obtain⟨va4,vl4,vc4,rfl⟩:=T.yT vr4;clear vr4
 obtain⟨va5,vl5,vc5,rfl⟩:=T.yT vr5;clear vr5
 obtain⟨va6,vl6,vc6,rfl⟩:=T.yT vr6;clear vr6
 obtain⟨va7,vl7,vc7,rfl⟩:=T.yT vr7;clear vr7
 clear hx
 have H0:=hide (show Below w.heap.size w (w.alloc (.cells #[.int .i64 x.zE.zG,(.slice va1 vl1 vc1),(.slice va2 vl2 vc2),(.slice va3 vl3 vc3),(.slice va4 vl4 vc4),(.slice va5 vl5 vc5),(.slice va6 vl6 vc6),(.slice va7 vl7 vc7)] 61)) from(Below.refl _ _).alloc (Nat.le_refl _) _)
 have K0:=hide (Bk.born w 61 #[.int .i64 x.zE.zG,(.slice va1 vl1 vc1),(.slice va2 vl2 vc2),(.slice va3 vl3 vc3),(.slice va4 vl4 vc4),(.slice va5 vl5 vc5),(.slice va6 vl6 vc6),(.slice va7 vl7 vc7)])
 go_enter Tryz.func5,Tryz.ntmps5
 go_wp2_with fail
 refine(b_szCache x _ 1048576 _ (by omega) (by omega) gx (T.rds_below HX.out H0.out)).mono ?_;rintro e w1 ⟨m,rfl,hm0,hm1,hsx,hb⟩
 have H1:=hide (yI H0.out H0.out.size hb);have K1:=hide (K0.out.below hb K0.out.lt)
 clear hb;have k0:=K1.out.cell;have l0:=K1.out.lt
 by_cases cm:m<0
 ·go_wp2
  go_ret
  exact⟨rfl,H1.out⟩
 have sx:=hsx (by omega)
 go_wp2_with fail
 refine(b_toCache x _ _ sx (T.rds_below HX.out H1.out)).mono ?_;rintro e w2 ⟨ds,rfl,hds,hb⟩
 have Du:=hide hds
 have H2:=hide (yI H1.out H1.out.size hb);have K2:=hide (K1.out.below hb K1.out.lt)
 clear hb k0 l0;have k0:=K2.out.cell;have l0:=K2.out.lt
 obtain⟨u1,u2,u3,u4,u5,u6,u7,rfl,ur1,ur2,ur3,ur4,ur5,ur6,ur7⟩:=GCache.yN hds
 obtain⟨ua1,ul1,uc1,rfl⟩:=T.yT ur1;clear ur1
 obtain⟨ua2,ul2,uc2,rfl⟩:=T.yT ur2;clear ur2
 obtain⟨ua3,ul3,uc3,rfl⟩:=T.yT ur3;clear ur3
 obtain⟨ua4,ul4,uc4,rfl⟩:=T.yT ur4;clear ur4
 obtain⟨ua5,ul5,uc5,rfl⟩:=T.yT ur5;clear ur5
 obtain⟨ua6,ul6,uc6,rfl⟩:=T.yT ur6;clear ur6
 obtain⟨ua7,ul7,uc7,rfl⟩:=T.yT ur7;clear ur7
 go_wp2_with fail
 refine(c_sSoundCache x _ _ gx ⟨sx.1,sx.2.1,sx.2.2.1,sx.2.2.2.1,sx.2.2.2.2.1⟩ Du.out).mono ?_;rintro e w3 ⟨rfl,hb⟩
 have H3:=hide (yI H2.out H2.out.size hb);have K3:=hide (K2.out.below hb K2.out.lt)
 clear hb k0 l0;have k0:=K3.out.cell;have l0:=K3.out.lt
 go_wp2_with fail
 refine(b_toCache x _ _ sx (T.rds_below HX.out H3.out)).mono ?_;rintro e w4 ⟨ds,rfl,hds,hb⟩
 have Dt:=hide hds
 have H4:=hide (yI H3.out H3.out.size hb);have K4:=hide (K3.out.below hb K3.out.lt)
 clear hb k0 l0;have k0:=K4.out.cell;have l0:=K4.out.lt
 obtain⟨t1,t2,t3,t4,t5,t6,t7,rfl,tr1,tr2,tr3,tr4,tr5,tr6,tr7⟩:=GCache.yN hds
 obtain⟨ta1,tl1,tc1,rfl⟩:=T.yT tr1;clear tr1
 obtain⟨ta2,tl2,tc2,rfl⟩:=T.yT tr2;clear tr2
 obtain⟨ta3,tl3,tc3,rfl⟩:=T.yT tr3;clear tr3
 obtain⟨ta4,tl4,tc4,rfl⟩:=T.yT tr4;clear tr4
 obtain⟨ta5,tl5,tc5,rfl⟩:=T.yT tr5;clear tr5
 obtain⟨ta6,tl6,tc6,rfl⟩:=T.yT tr6;clear tr6
 obtain⟨ta7,tl7,tc7,rfl⟩:=T.yT tr7;clear tr7
 have HA:=hide (show Below w4.heap.size w4 (w4.alloc (.cells #[.int .i64 x.zE.zG,(.slice ta1 tl1 tc1),(.slice ta2 tl2 tc2),(.slice ta3 tl3 tc3),(.slice ta4 tl4 tc4),(.slice ta5 tl5 tc5),(.slice ta6 tl6 tc6),(.slice ta7 tl7 tc7)] 65)) from(Below.refl _ _).alloc (Nat.le_refl _) _)
 have KX0:=hide (Bk.born w4 65 #[.int .i64 x.zE.zG,(.slice ta1 tl1 tc1),(.slice ta2 tl2 tc2),(.slice ta3 tl3 tc3),(.slice ta4 tl4 tc4),(.slice ta5 tl5 tc5),(.slice ta6 tl6 tc6),(.slice ta7 tl7 tc7)])
 go_wp2_with fail
 refine(c_iSoundCache x _ _ gx ⟨sx.1,sx.2.1,sx.2.2.1,sx.2.2.2.1,sx.2.2.2.2.1⟩ (T.rds_below Dt.out HA.out)).mono ?_;rintro e w5 ⟨rfl,hb9⟩
 have hb:=yI HA.out HA.out.size hb9
 have DX:=hide (T.rds_below Dt.out hb);have KX:=hide (KX0.out.below hb9 KX0.out.lt);clear hb9
 have H5:=hide (yI H4.out H4.out.size hb);have K5:=hide (K4.out.below hb K4.out.lt)
 clear hb k0 l0;have k0:=K5.out.cell;have l0:=K5.out.lt
 generalize tf (SoundC x)=ans at *
 have kx:=KX.out.cell;have lx:=KX.out.lt
 have hne:(ans != ans)=false:=by simp
 go_wp2
 go_region_held3 (fun w'=>(∀ i,w'.cell? ⟨w.heap.size,i,none⟩= #[.int .i64 x.zE.zG,(.slice va1 vl1 vc1),(.slice va2 vl2 vc2),(.slice va3 vl3 vc3),(.slice va4 vl4 vc4),(.slice va5 vl5 vc5),(.slice va6 vl6 vc6),(.slice va7 vl7 vc7)][i]?)∧(∀ i,w'.cell? ⟨w4.heap.size,i,none⟩= #[.int .i64 x.zE.zG,(.slice ta1 tl1 tc1),(.slice ta2 tl2 tc2),(.slice ta3 tl3 tc3),(.slice ta4 tl4 tc4),(.slice ta5 tl5 tc5),(.slice ta6 tl6 tc6),(.slice ta7 tl7 tc7)][i]?)) (first|exact⟨K5.out.cell,KX.out.cell⟩|exact⟨(K5.out.below c6.out K5.out.lt).cell,(KX.out.below c6.out KX.out.lt).cell⟩|exact⟨(K5.out.below c5.out K5.out.lt).cell,(KX.out.below c5.out KX.out.lt).cell⟩) (first|(go_at_call 21;refine(b_toCache x _ _ sx (T.rds_below HX.out (by first|exact H5.out|exact H5.out.drew|exact below_drewN H5.out _))).mono ?_;rintro e wA ⟨fs,rfl,hfs,hb5⟩;have c5:=hide (show Below w5.heap.size w5 wA from(by first|exact hb5|exact undrew hb5|exact undrewN hb5));have F5:=hide hfs)|(go_at_call 23;refine(b_eqCache x _ _ _ (T.rds_below DX.out (by first|exact c5.out|exact c5.out.drew|exact below_drewN c5.out _)) (T.rds_below F5.out (by first|exact Below.refl _ _|exact(Below.refl _ _).drew|exact below_drewN (Below.refl _ _) _))).mono ?_;rintro e wB ⟨rfl,hb6⟩;have c6:=hide (yI c5.out c5.out.size (show Below wA.heap.size wA wB from(by first|exact hb6|exact undrew hb6|exact undrewN hb6)))))
 have H9:=hide (yI H5.out H5.out.size c6.out)
 go_wp2
 go_ret
 exact⟨rfl,H9.out⟩
end Go.Proofs.YtoibekfhepnedaaGreat
