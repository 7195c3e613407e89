/- The law MakeCache. -/
import Derived.Test.YtoibekfhepnedaaGreatQBjExactMakeCache
import Derived.Test.YtoibekfhepnedaaGreatQAxExactMakeCache
import Derived.Deep.RegionHeld3
set_option linter.unusedVariables false
set_option linter.unusedSimpArgs false
set_option maxHeartbeats 4000000
set_option maxRecDepth 100000
namespace Go.Proofs.YtoibekfhepnedaaGreat
open Go.RowKit
theorem noneM_small:uY.small:=⟨⟨by simp[uY,uK],by simp[uY,uK]⟩,⟨by simp[uY,uK],by simp[uY,uK]⟩,by simp[uY,uK],⟨by simp[uY,uK],by simp[uY,uK]⟩,⟨by simp[uY,uK],by simp[uY,uK]⟩,by simp[uY],by simp[uY]⟩
theorem MakeCache_small {x:xK} (h:x.small):(mkC x).1.small:=by
 by_cases hv:vL x
 ·rw[mkC_yes hv]
  have hl:=xC.1 hv.length
  exact⟨h.1,h.2.1,h.2.2.1,h.2.2.2.1,h.2.2.2.2,by show (mixF x).length≤_;rw[length_mixF];omega,by show ([]:List Int).length≤_;simp⟩
 ·rw[mkC_no hv];exact noneM_small
theorem law_MakeCache (x:xK) (cs:List Value) (w:World) (hx:T.rds w x.fs cs) (gx:x.good):Calls Tryz.prog 6 #[.agg cs.toArray] w fun e w'=>e= .returned (.bool true)∧Below w.heap.size w w':=by
 have HX:=hide hx
 obtain⟨v1,v2,v3,v4,v5,rfl,vr1,vr2,vr3,vr4,vr5⟩:=xK.yO hx
 obtain⟨va1,vl1,vc1,rfl⟩:=T.yV vr1;clear vr1
 obtain⟨va2,vl2,vc2,rfl⟩:=T.yV vr2;clear vr2
 obtain⟨va3,vl3,vc3,rfl⟩:=T.yV vr3;clear vr3
 obtain⟨va4,vl4,vc4,rfl⟩:=T.yV vr4;clear vr4
 obtain⟨va5,vl5,vc5,rfl⟩:=T.yV vr5;clear vr5
 clear hx
 have H0:=hide (show Below w.heap.size w (w.alloc (.cells #[.int .i64 x.zF,(.slice va1 vl1 vc1),(.slice va2 vl2 vc2),(.slice va3 vl3 vc3),(.slice va4 vl4 vc4),(.slice va5 vl5 vc5)] 59)) from(Below.refl _ _).alloc (Nat.le_refl _) _)
 have KS:=hide (Bk.born w 59 #[.int .i64 x.zF,(.slice va1 vl1 vc1),(.slice va2 vl2 vc2),(.slice va3 vl3 vc3),(.slice va4 vl4 vc4),(.slice va5 vl5 vc5)])
 go_enter Tryz.func6,Tryz.ntmps6
 have kcKS:=KS.out.cell;have klKS:=KS.out.lt
 go_wp2_with fail
 refine(b_szSession x _ 1048576 _ (by omega) (by omega) gx (T.rds_below HX.out H0.out)).mono ?_;rintro e w1 ⟨m,rfl,hm0,hm1,hsx,hb⟩
 clear kcKS klKS
 have H1:=hide (yJ H0.out H0.out.size hb);have hs1:=hb.size
 replace KS:=hide (KS.out.below hb KS.out.lt)
 clear hb
 have kcKS:=KS.out.cell;have klKS:=KS.out.lt
 have hz1:w.heap.size<w1.heap.size:=KS.out.lt
 by_cases cm:m<0
 ·go_wp2
  go_ret
  exact⟨rfl,H1.out⟩
 have sx:=hsx (by omega)
 have hcx:=xK.cntv_le sx
 obtain⟨RS,rc,hR⟩: ∃ RS rc,mkC x=(RS,rc):=⟨_,_,rfl⟩
 have hne:(rc != rc)=false:=by simp
 have srs:RS.small:=by have:=MakeCache_small sx;rw[hR] at this;exact this
 have hcr:=wS.cntv_le srs
 have GXH:=hide gx
 have SI:=hide (fun(W:World) (ds:List Value) (h:T.rds W x.fs ds)=>(by have:=c_sMakeCache x ds W sx GXH.out h;rw[hR] at this;exact this:Calls Tryz.prog 25 #[.agg ds.toArray] W fun e w'=> ∃ v1 v2 v3 v4 v5 v6 v7 F,e= .returned (.tuple #[.agg #[.int .i64 RS.zT.zF,v1,v2,v3,v4,v5,v6,v7],.int .i64 rc])∧Nw W w' RS.fs F [.int .i64 RS.zT.zF,v1,v2,v3,v4,v5,v6,v7]))
 have II:=hide (fun(W:World) (ds:List Value) (h:T.rds W x.fs ds)=>(by have:=c_iMakeCache x ds W sx GXH.out h;rw[hR] at this;exact this:Calls Tryz.prog 27 #[.agg ds.toArray] W fun e w'=> ∃ v1 v2 v3 v4 v5 v6 v7 F,e= .returned (.tuple #[.agg #[.int .i64 RS.zT.zF,v1,v2,v3,v4,v5,v6,v7],.int .i64 rc])∧Nw W w' RS.fs F [.int .i64 RS.zT.zF,v1,v2,v3,v4,v5,v6,v7]))
 have SRS:=hide srs;clear hR srs
 go_wp2_with fail
 refine(b_toSession x _ _ sx (T.rds_below HX.out H1.out)).mono ?_;rintro e w2 ⟨ds,rfl,hds,hb⟩
 have Dd:=hide hds;clear hds
 clear kcKS klKS
 have H2:=hide (yJ H1.out H1.out.size hb);have hs2:=hb.size
 replace KS:=hide (KS.out.below hb KS.out.lt)
 clear hb
 have kcKS:=KS.out.cell;have klKS:=KS.out.lt
 go_wp2_with fail
 refine(SI.out _ _ Dd.out).mono ?_;rintro e w3 ⟨v1,v2,v3,v4,v5,v6,v7,F5,rfl,hN⟩
 have hb:=hN.below;obtain⟨⟨A1r5,L1r5,C1r5,rfl⟩,⟨A2r5,L2r5,C2r5,rfl⟩,⟨A3r5,L3r5,C3r5,rfl⟩,⟨A4r5,L4r5,C4r5,rfl⟩,⟨A5r5,L5r5,C5r5,rfl⟩,⟨A6r5,L6r5,C6r5,rfl⟩,⟨A7r5,L7r5,C7r5,rfl⟩⟩:=cache_sl7 (T.ows_rds _ _ _ hN.ows)
 have O5:=hide hN.ows;have N5:=hide hN.nodup;have L5:=hide hN.lo;have I5:=hide hN.lt;clear hN
 clear kcKS klKS
 have H3:=hide (yJ H2.out H2.out.size hb);have hs3:=hb.size
 replace KS:=hide (KS.out.below hb KS.out.lt)
 replace Dd:=hide (T.rds_below Dd.out hb)
 clear hb
 have kcKS:=KS.out.cell;have klKS:=KS.out.lt
 clear Dd
 go_wp2_with fail
 clear kcKS klKS
 have hb:Below w3.heap.size w3 (w3.alloc (.cells #[.int .i64 RS.zT.zF,.slice A1r5 L1r5 C1r5,.slice A2r5 L2r5 C2r5,.slice A3r5 L3r5 C3r5,.slice A4r5 L4r5 C4r5,.slice A5r5 L5r5 C5r5,.slice A6r5 L6r5 C6r5,.slice A7r5 L7r5 C7r5] 65)):=(Below.refl _ _).alloc (Nat.le_refl _) _
 have KG:=hide (Bk.born w3 65 #[.int .i64 RS.zT.zF,.slice A1r5 L1r5 C1r5,.slice A2r5 L2r5 C2r5,.slice A3r5 L3r5 C3r5,.slice A4r5 L4r5 C4r5,.slice A5r5 L5r5 C5r5,.slice A6r5 L6r5 C6r5,.slice A7r5 L7r5 C7r5])
 generalize (w3.alloc (.cells #[.int .i64 RS.zT.zF,.slice A1r5 L1r5 C1r5,.slice A2r5 L2r5 C2r5,.slice A3r5 L3r5 C3r5,.slice A4r5 L4r5 C4r5,.slice A5r5 L5r5 C5r5,.slice A6r5 L6r5 C6r5,.slice A7r5 L7r5 C7r5] 65))=w4 at *
 have ghKG:w3.heap.size<w4.heap.size:=KG.out.lt
 have H4:=hide (yJ H3.out H3.out.size hb);have hs4:=hb.size
 replace KS:=hide (KS.out.below hb KS.out.lt)
 replace O5:=hide (T.ows_all O5.out hb)
 clear hb
 have kcKS:=KS.out.cell;have klKS:=KS.out.lt
 have kcKG:=KG.out.cell;have klKG:=KG.out.lt
 refine(bo_toSession x _ _ sx (T.rds_below HX.out H4.out)).mono ?_;rintro e w5 ⟨ds,FX,rfl,hN⟩
 have OX:=hide hN.ows;have NX:=hide hN.nodup;have LX:=hide hN.lo;have IX:=hide hN.lt;have hb:=hN.below;have hds:=T.ows_rds _ _ _ hN.ows;clear hN
 clear kcKS klKS kcKG klKG
 have H5:=hide (yJ H4.out H4.out.size hb);have hs5:=hb.size
 replace KS:=hide (KS.out.below hb KS.out.lt)
 replace KG:=hide (KG.out.below hb KG.out.lt)
 replace O5:=hide (T.ows_all O5.out hb)
 clear hb
 have kcKS:=KS.out.cell;have klKS:=KS.out.lt
 have kcKG:=KG.out.cell;have klKG:=KG.out.lt
 obtain⟨t1,t2,t3,t4,t5,rfl,tr1,tr2,tr3,tr4,tr5⟩:=xK.yO hds
 obtain⟨ta1,tl1,tc1,rfl⟩:=T.yV tr1;clear tr1
 obtain⟨ta2,tl2,tc2,rfl⟩:=T.yV tr2;clear tr2
 obtain⟨ta3,tl3,tc3,rfl⟩:=T.yV tr3;clear tr3
 obtain⟨ta4,tl4,tc4,rfl⟩:=T.yV tr4;clear tr4
 obtain⟨ta5,tl5,tc5,rfl⟩:=T.yV tr5;clear tr5
 go_wp2_with fail
 clear kcKS klKS kcKG klKG
 have hb:Below w5.heap.size w5 (w5.alloc (.cells #[.int .i64 x.zF,(.slice ta1 tl1 tc1),(.slice ta2 tl2 tc2),(.slice ta3 tl3 tc3),(.slice ta4 tl4 tc4),(.slice ta5 tl5 tc5)] 32)):=(Below.refl _ _).alloc (Nat.le_refl _) _
 have KX:=hide (Bk.born w5 32 #[.int .i64 x.zF,(.slice ta1 tl1 tc1),(.slice ta2 tl2 tc2),(.slice ta3 tl3 tc3),(.slice ta4 tl4 tc4),(.slice ta5 tl5 tc5)])
 generalize (w5.alloc (.cells #[.int .i64 x.zF,(.slice ta1 tl1 tc1),(.slice ta2 tl2 tc2),(.slice ta3 tl3 tc3),(.slice ta4 tl4 tc4),(.slice ta5 tl5 tc5)] 32))=w6 at *
 have ghKX:w5.heap.size<w6.heap.size:=KX.out.lt
 have H6:=hide (yJ H5.out H5.out.size hb);have hs6:=hb.size
 replace KS:=hide (KS.out.below hb KS.out.lt)
 replace KG:=hide (KG.out.below hb KG.out.lt)
 replace O5:=hide (T.ows_all O5.out hb)
 replace OX:=hide (T.ows_all OX.out hb)
 clear hb
 have kcKS:=KS.out.cell;have klKS:=KS.out.lt
 have kcKG:=KG.out.cell;have klKG:=KG.out.lt
 have kcKX:=KX.out.cell;have klKX:=KX.out.lt
 refine(II.out _ _ (T.ows_rds _ _ _ OX.out)).mono ?_;rintro e w7 ⟨v1,v2,v3,v4,v5,v6,v7,F7,rfl,hN⟩
 have hb:=hN.below;obtain⟨⟨A1r7,L1r7,C1r7,rfl⟩,⟨A2r7,L2r7,C2r7,rfl⟩,⟨A3r7,L3r7,C3r7,rfl⟩,⟨A4r7,L4r7,C4r7,rfl⟩,⟨A5r7,L5r7,C5r7,rfl⟩,⟨A6r7,L6r7,C6r7,rfl⟩,⟨A7r7,L7r7,C7r7,rfl⟩⟩:=cache_sl7 (T.ows_rds _ _ _ hN.ows)
 have O7:=hide hN.ows;have N7:=hide hN.nodup;have L7:=hide hN.lo;have I7:=hide hN.lt;clear hN
 clear kcKS klKS kcKG klKG kcKX klKX
 have H7:=hide (yJ H6.out H6.out.size hb);have hs7:=hb.size
 replace KS:=hide (KS.out.below hb KS.out.lt)
 replace KG:=hide (KG.out.below hb KG.out.lt)
 replace KX:=hide (KX.out.below hb KX.out.lt)
 replace O5:=hide (T.ows_all O5.out hb)
 replace OX:=hide (T.ows_all OX.out hb)
 clear hb
 have kcKS:=KS.out.cell;have klKS:=KS.out.lt
 have kcKG:=KG.out.cell;have klKG:=KG.out.lt
 have kcKX:=KX.out.cell;have klKX:=KX.out.lt
 go_wp2_with fail
 clear kcKS klKS kcKG klKG kcKX klKX
 have hb:Below w7.heap.size w7 (w7.alloc (.cells #[.int .i64 RS.zT.zF,.slice A1r7 L1r7 C1r7,.slice A2r7 L2r7 C2r7,.slice A3r7 L3r7 C3r7,.slice A4r7 L4r7 C4r7,.slice A5r7 L5r7 C5r7,.slice A6r7 L6r7 C6r7,.slice A7r7 L7r7 C7r7] 65)):=(Below.refl _ _).alloc (Nat.le_refl _) _
 have KH:=hide (Bk.born w7 65 #[.int .i64 RS.zT.zF,.slice A1r7 L1r7 C1r7,.slice A2r7 L2r7 C2r7,.slice A3r7 L3r7 C3r7,.slice A4r7 L4r7 C4r7,.slice A5r7 L5r7 C5r7,.slice A6r7 L6r7 C6r7,.slice A7r7 L7r7 C7r7])
 generalize (w7.alloc (.cells #[.int .i64 RS.zT.zF,.slice A1r7 L1r7 C1r7,.slice A2r7 L2r7 C2r7,.slice A3r7 L3r7 C3r7,.slice A4r7 L4r7 C4r7,.slice A5r7 L5r7 C5r7,.slice A6r7 L6r7 C6r7,.slice A7r7 L7r7 C7r7] 65))=w8 at *
 have ghKH:w7.heap.size<w8.heap.size:=KH.out.lt
 have H8:=hide (yJ H7.out H7.out.size hb);have hs8:=hb.size
 replace KS:=hide (KS.out.below hb KS.out.lt)
 replace KG:=hide (KG.out.below hb KG.out.lt)
 replace KX:=hide (KX.out.below hb KX.out.lt)
 replace O5:=hide (T.ows_all O5.out hb)
 replace OX:=hide (T.ows_all OX.out hb)
 replace O7:=hide (T.ows_all O7.out hb)
 clear hb
 have kcKS:=KS.out.cell;have klKS:=KS.out.lt
 have kcKG:=KG.out.cell;have klKG:=KG.out.lt
 have kcKX:=KX.out.cell;have klKX:=KX.out.lt
 have kcKH:=KH.out.cell;have klKH:=KH.out.lt
 refine(b_eqCache RS _ _ _ (T.ows_rds _ _ _ O7.out) (T.ows_rds _ _ _ O5.out)).mono ?_;rintro e w9 ⟨rfl,hb⟩
 clear kcKS klKS kcKG klKG kcKX klKX kcKH klKH
 have H9:=hide (yJ H8.out H8.out.size hb);have hs9:=hb.size
 replace KS:=hide (KS.out.below hb KS.out.lt)
 replace KG:=hide (KG.out.below hb KG.out.lt)
 replace KX:=hide (KX.out.below hb KX.out.lt)
 replace KH:=hide (KH.out.below hb KH.out.lt)
 replace O5:=hide (T.ows_all O5.out hb)
 replace OX:=hide (T.ows_all OX.out hb)
 replace O7:=hide (T.ows_all O7.out hb)
 clear hb
 have kcKS:=KS.out.cell;have klKS:=KS.out.lt
 have kcKG:=KG.out.cell;have klKG:=KG.out.lt
 have kcKX:=KX.out.cell;have klKX:=KX.out.lt
 have kcKH:=KH.out.cell;have klKH:=KH.out.lt
 clear kcKS klKS kcKG klKG kcKX klKX kcKH klKH
 go_wp2_with fail
 go_region_held3 (fun w'=>(∀ i,w'.cell? ⟨w5.heap.size,i,none⟩= #[.int .i64 x.zF,(.slice ta1 tl1 tc1),(.slice ta2 tl2 tc2),(.slice ta3 tl3 tc3),(.slice ta4 tl4 tc4),(.slice ta5 tl5 tc5)][i]?)∧(∀ i,w'.cell? ⟨w.heap.size,i,none⟩= #[.int .i64 x.zF,(.slice va1 vl1 vc1),(.slice va2 vl2 vc2),(.slice va3 vl3 vc3),(.slice va4 vl4 vc4),(.slice va5 vl5 vc5)][i]?)) ((((try simp only[World.cell?_drew]));first|with_reducible exact⟨KX.out.cell,KS.out.cell⟩|with_reducible exact⟨KX10_0.out.cell,KS10_0.out.cell⟩|with_reducible exact⟨KX10_1.out.cell,KS10_1.out.cell⟩|(trace_state;fail))) (first|(go_at_call 26;refine(b_toSession x _ _ sx (T.rds_below HX.out (by first|with_reducible exact H9.out|with_reducible exact H9.out.drew|with_reducible exact(below_drewN H9.out _)|with_reducible exact(H9.out.alloc (H9.out.size) _)|with_reducible exact(H9.out.alloc (H9.out.size) _).drew|with_reducible exact((H9.out.drew).alloc (H9.out.size) _)|with_reducible exact(below_drewN (H9.out.alloc (H9.out.size) _) _)|with_reducible exact((below_drewN H9.out _).alloc (H9.out.size) _)))).mono ?_;rintro e wA10 ⟨ds,rfl,hds,hb⟩;have E10_0:=hide (show Below w9.heap.size w9 wA10 from(by first|with_reducible exact hb|with_reducible exact undrew hb|with_reducible exact wM hb|with_reducible exact yM hb|with_reducible exact undrew (yM hb)|with_reducible exact yM (undrew hb)|with_reducible exact wM (yM hb)|with_reducible exact yM (wM hb)));have D10_0:=hide (show Below w9.heap.size w9 wA10 from E10_0.out);have KX10_0:=hide (KX.out.below D10_0.out KX.out.lt);have KS10_0:=hide (KS.out.below D10_0.out KS.out.lt);clear hb)|(go_at_call 28;refine(b_eqSession x _ _ _ (T.rds_below (T.ows_rds _ _ _ OX.out) (by first|with_reducible exact D10_0.out|with_reducible exact D10_0.out.drew|with_reducible exact(below_drewN D10_0.out _)|with_reducible exact(D10_0.out.alloc (D10_0.out.size) _)|with_reducible exact(D10_0.out.alloc (D10_0.out.size) _).drew|with_reducible exact((D10_0.out.drew).alloc (D10_0.out.size) _)|with_reducible exact(below_drewN (D10_0.out.alloc (D10_0.out.size) _) _)|with_reducible exact((below_drewN D10_0.out _).alloc (D10_0.out.size) _))) (T.rds_below hds (by first|with_reducible exact(Below.refl _ _)|with_reducible exact(Below.refl _ _).drew|with_reducible exact(below_drewN (Below.refl _ _) _)|with_reducible exact((Below.refl _ _).alloc (Nat.le_refl _) _)|with_reducible exact((Below.refl _ _).alloc (Nat.le_refl _) _).drew|with_reducible exact(((Below.refl _ _).drew).alloc (Nat.le_refl _) _)|with_reducible exact(below_drewN ((Below.refl _ _).alloc (Nat.le_refl _) _) _)|with_reducible exact((below_drewN (Below.refl _ _) _).alloc (Nat.le_refl _) _)))).mono ?_;rintro e wB10 ⟨rfl,hb⟩;have E10_1:=hide (show Below wA10.heap.size wA10 wB10 from(by first|with_reducible exact hb|with_reducible exact undrew hb|with_reducible exact wM hb|with_reducible exact yM hb|with_reducible exact undrew (yM hb)|with_reducible exact yM (undrew hb)|with_reducible exact wM (yM hb)|with_reducible exact yM (wM hb)));have D10_1:=hide (show Below w9.heap.size w9 wB10 from yJ D10_0.out D10_0.out.size E10_1.out);have KX10_1:=hide (KX.out.below D10_1.out KX.out.lt);have KS10_1:=hide (KS.out.below D10_1.out KS.out.lt);clear hb))
 have hb:=D10_1.out
 generalize wB10=w10 at *
 have H10:=hide (yJ H9.out H9.out.size hb);have hs10:=hb.size
 replace KS:=hide (KS.out.below hb KS.out.lt)
 replace KG:=hide (KG.out.below hb KG.out.lt)
 replace KX:=hide (KX.out.below hb KX.out.lt)
 replace KH:=hide (KH.out.below hb KH.out.lt)
 replace O5:=hide (T.ows_all O5.out hb)
 replace OX:=hide (T.ows_all OX.out hb)
 replace O7:=hide (T.ows_all O7.out hb)
 clear hb
 have kcKS:=KS.out.cell;have klKS:=KS.out.lt
 have kcKG:=KG.out.cell;have klKG:=KG.out.lt
 have kcKX:=KX.out.cell;have klKX:=KX.out.lt
 have kcKH:=KH.out.cell;have klKH:=KH.out.lt
 go_wp2_with fail
 refine(bo_markSession x _ FX 1 _ (by omega) (by omega) OX.out NX.out).mono ?_;rintro e w11 ⟨rfl,hO,hT⟩
 obtain⟨mx,hmx,pmx⟩: ∃ mm:Int,((1+x.cntv:Nat):Int)=mm∧0<mm:=⟨_,rfl,by omega⟩
 have nmx: ¬ mx<0:=by omega
 rw[hmx];have Emx:=hide hmx;clear hmx
 clear kcKS klKS kcKG klKG kcKX klKX kcKH klKH
 have H11:=hide (hT.below H10.out (fun b hb=>by have h1:=LX.out b hb;omega) H10.out.size);have hs11:=hT.size
 replace KS:=hide (KS.out.trn hT (fun hm=>by have h1:=LX.out _ hm;have h2:=IX.out _ hm;omega))
 replace KG:=hide (KG.out.trn hT (fun hm=>by have h1:=LX.out _ hm;have h2:=IX.out _ hm;omega))
 replace KX:=hide (KX.out.trn hT (fun hm=>by have h1:=LX.out _ hm;have h2:=IX.out _ hm;omega))
 replace KH:=hide (KH.out.trn hT (fun hm=>by have h1:=LX.out _ hm;have h2:=IX.out _ hm;omega))
 replace O5:=hide (T.ows_trn O5.out hT (fun b hb hm=>by have h1:=LX.out _ hm;have h2:=IX.out _ hm;have h3:=L5.out b hb;have h4:=I5.out b hb;omega))
 replace O7:=hide (T.ows_trn O7.out hT (fun b hb hm=>by have h1:=LX.out _ hm;have h2:=IX.out _ hm;have h3:=L7.out b hb;have h4:=I7.out b hb;omega))
 clear hT
 have kcKS:=KS.out.cell;have klKS:=KS.out.lt
 have kcKG:=KG.out.cell;have klKG:=KG.out.lt
 have kcKX:=KX.out.cell;have klKX:=KX.out.lt
 have kcKH:=KH.out.cell;have klKH:=KH.out.lt
 clear OX;have OX:=hide hO;clear hO
 go_wp2_with fail
 refine(b_eqCache RS _ _ _ (T.ows_rds _ _ _ O7.out) (T.ows_rds _ _ _ O5.out)).mono ?_;rintro e w12 ⟨rfl,hb⟩
 clear kcKS klKS kcKG klKG kcKX klKX kcKH klKH
 have H12:=hide (yJ H11.out H11.out.size hb);have hs12:=hb.size
 replace KS:=hide (KS.out.below hb KS.out.lt)
 replace KG:=hide (KG.out.below hb KG.out.lt)
 replace KX:=hide (KX.out.below hb KX.out.lt)
 replace KH:=hide (KH.out.below hb KH.out.lt)
 replace O5:=hide (T.ows_all O5.out hb)
 replace O7:=hide (T.ows_all O7.out hb)
 replace OX:=hide (T.ows_all OX.out hb)
 clear hb
 have kcKS:=KS.out.cell;have klKS:=KS.out.lt
 have kcKG:=KG.out.cell;have klKG:=KG.out.lt
 have kcKX:=KX.out.cell;have klKX:=KX.out.lt
 have kcKH:=KH.out.cell;have klKH:=KH.out.lt
 go_wp2_with fail
 refine(bo_markCache RS _ F7 1 _ (by omega) (by omega) O7.out N7.out).mono ?_;rintro e w13 ⟨rfl,hO,hT⟩
 obtain⟨mr,hmr,pmr⟩: ∃ mm:Int,((1+RS.cntv:Nat):Int)=mm∧0<mm:=⟨_,rfl,by omega⟩
 have nmr: ¬ mr<0:=by omega
 rw[hmr];have Emr:=hide hmr;clear hmr
 clear kcKS klKS kcKG klKG kcKX klKX kcKH klKH
 have H13:=hide (hT.below H12.out (fun b hb=>by have h1:=L7.out b hb;omega) H12.out.size);have hs13:=hT.size
 replace KS:=hide (KS.out.trn hT (fun hm=>by have h1:=L7.out _ hm;have h2:=I7.out _ hm;omega))
 replace KG:=hide (KG.out.trn hT (fun hm=>by have h1:=L7.out _ hm;have h2:=I7.out _ hm;omega))
 replace KX:=hide (KX.out.trn hT (fun hm=>by have h1:=L7.out _ hm;have h2:=I7.out _ hm;omega))
 replace KH:=hide (KH.out.trn hT (fun hm=>by have h1:=L7.out _ hm;have h2:=I7.out _ hm;omega))
 replace O5:=hide (T.ows_trn O5.out hT (fun b hb hm=>by have h1:=L7.out _ hm;have h2:=I7.out _ hm;have h3:=L5.out b hb;have h4:=I5.out b hb;omega))
 replace OX:=hide (T.ows_trn OX.out hT (fun b hb hm=>by have h1:=L7.out _ hm;have h2:=I7.out _ hm;have h3:=LX.out b hb;have h4:=IX.out b hb;omega))
 clear hT
 have kcKS:=KS.out.cell;have klKS:=KS.out.lt
 have kcKG:=KG.out.cell;have klKG:=KG.out.lt
 have kcKX:=KX.out.cell;have klKX:=KX.out.lt
 have kcKH:=KH.out.cell;have klKH:=KH.out.lt
 clear O7;have O7:=hide hO;clear hO
 have hqe:(mr != mr)=false:=by simp
 go_wp2_with fail
 refine(bo_heldCache RS _ 1 _ (by omega) (by omega) (T.ows_rds _ _ _ O7.out)).mono ?_;rintro e w14 ⟨rfl,hb⟩;rw[Emr.out]
 clear kcKS klKS kcKG klKG kcKX klKX kcKH klKH
 have H14:=hide (yJ H13.out H13.out.size hb);have hs14:=hb.size
 replace KS:=hide (KS.out.below hb KS.out.lt)
 replace KG:=hide (KG.out.below hb KG.out.lt)
 replace KX:=hide (KX.out.below hb KX.out.lt)
 replace KH:=hide (KH.out.below hb KH.out.lt)
 replace O5:=hide (T.ows_all O5.out hb)
 replace OX:=hide (T.ows_all OX.out hb)
 replace O7:=hide (T.ows_all O7.out hb)
 clear hb
 have kcKS:=KS.out.cell;have klKS:=KS.out.lt
 have kcKG:=KG.out.cell;have klKG:=KG.out.lt
 have kcKX:=KX.out.cell;have klKX:=KX.out.lt
 have kcKH:=KH.out.cell;have klKH:=KH.out.lt
 go_wp2_with fail
 refine(b_toSession x _ _ sx (T.rds_below HX.out H14.out)).mono ?_;rintro e w15 ⟨ds,rfl,hds,hb⟩
 have De:=hide hds;clear hds
 clear kcKS klKS kcKG klKG kcKX klKX kcKH klKH
 have H15:=hide (yJ H14.out H14.out.size hb);have hs15:=hb.size
 replace KS:=hide (KS.out.below hb KS.out.lt)
 replace KG:=hide (KG.out.below hb KG.out.lt)
 replace KX:=hide (KX.out.below hb KX.out.lt)
 replace KH:=hide (KH.out.below hb KH.out.lt)
 replace O5:=hide (T.ows_all O5.out hb)
 replace OX:=hide (T.ows_all OX.out hb)
 replace O7:=hide (T.ows_all O7.out hb)
 clear hb
 have kcKS:=KS.out.cell;have klKS:=KS.out.lt
 have kcKG:=KG.out.cell;have klKG:=KG.out.lt
 have kcKX:=KX.out.cell;have klKX:=KX.out.lt
 have kcKH:=KH.out.cell;have klKH:=KH.out.lt
 go_wp2_with fail
 refine(II.out _ _ De.out).mono ?_;rintro e w16 ⟨v1,v2,v3,v4,v5,v6,v7,F17,rfl,hN⟩
 have hb:=hN.below;obtain⟨⟨A1r17,L1r17,C1r17,rfl⟩,⟨A2r17,L2r17,C2r17,rfl⟩,⟨A3r17,L3r17,C3r17,rfl⟩,⟨A4r17,L4r17,C4r17,rfl⟩,⟨A5r17,L5r17,C5r17,rfl⟩,⟨A6r17,L6r17,C6r17,rfl⟩,⟨A7r17,L7r17,C7r17,rfl⟩⟩:=cache_sl7 (T.ows_rds _ _ _ hN.ows)
 have O17:=hide hN.ows;have N17:=hide hN.nodup;have L17:=hide hN.lo;have I17:=hide hN.lt;clear hN
 clear kcKS klKS kcKG klKG kcKX klKX kcKH klKH
 have H16:=hide (yJ H15.out H15.out.size hb);have hs16:=hb.size
 replace KS:=hide (KS.out.below hb KS.out.lt)
 replace KG:=hide (KG.out.below hb KG.out.lt)
 replace KX:=hide (KX.out.below hb KX.out.lt)
 replace KH:=hide (KH.out.below hb KH.out.lt)
 replace O5:=hide (T.ows_all O5.out hb)
 replace OX:=hide (T.ows_all OX.out hb)
 replace O7:=hide (T.ows_all O7.out hb)
 replace De:=hide (T.rds_below De.out hb)
 clear hb
 have kcKS:=KS.out.cell;have klKS:=KS.out.lt
 have kcKG:=KG.out.cell;have klKG:=KG.out.lt
 have kcKX:=KX.out.cell;have klKX:=KX.out.lt
 have kcKH:=KH.out.cell;have klKH:=KH.out.lt
 clear De
 go_wp2_with fail
 clear kcKS klKS kcKG klKG kcKX klKX kcKH klKH
 have hb:Below w16.heap.size w16 (w16.alloc (.cells #[.int .i64 RS.zT.zF,.slice A1r17 L1r17 C1r17,.slice A2r17 L2r17 C2r17,.slice A3r17 L3r17 C3r17,.slice A4r17 L4r17 C4r17,.slice A5r17 L5r17 C5r17,.slice A6r17 L6r17 C6r17,.slice A7r17 L7r17 C7r17] 65)):=(Below.refl _ _).alloc (Nat.le_refl _) _
 have KI:=hide (Bk.born w16 65 #[.int .i64 RS.zT.zF,.slice A1r17 L1r17 C1r17,.slice A2r17 L2r17 C2r17,.slice A3r17 L3r17 C3r17,.slice A4r17 L4r17 C4r17,.slice A5r17 L5r17 C5r17,.slice A6r17 L6r17 C6r17,.slice A7r17 L7r17 C7r17])
 generalize (w16.alloc (.cells #[.int .i64 RS.zT.zF,.slice A1r17 L1r17 C1r17,.slice A2r17 L2r17 C2r17,.slice A3r17 L3r17 C3r17,.slice A4r17 L4r17 C4r17,.slice A5r17 L5r17 C5r17,.slice A6r17 L6r17 C6r17,.slice A7r17 L7r17 C7r17] 65))=w17 at *
 have ghKI:w16.heap.size<w17.heap.size:=KI.out.lt
 have H17:=hide (yJ H16.out H16.out.size hb);have hs17:=hb.size
 replace KS:=hide (KS.out.below hb KS.out.lt)
 replace KG:=hide (KG.out.below hb KG.out.lt)
 replace KX:=hide (KX.out.below hb KX.out.lt)
 replace KH:=hide (KH.out.below hb KH.out.lt)
 replace O5:=hide (T.ows_all O5.out hb)
 replace OX:=hide (T.ows_all OX.out hb)
 replace O7:=hide (T.ows_all O7.out hb)
 replace O17:=hide (T.ows_all O17.out hb)
 clear hb
 have kcKS:=KS.out.cell;have klKS:=KS.out.lt
 have kcKG:=KG.out.cell;have klKG:=KG.out.lt
 have kcKX:=KX.out.cell;have klKX:=KX.out.lt
 have kcKH:=KH.out.cell;have klKH:=KH.out.lt
 have kcKI:=KI.out.cell;have klKI:=KI.out.lt
 refine(b_eqCache RS _ _ _ (T.ows_rds _ _ _ O17.out) (T.ows_rds _ _ _ O5.out)).mono ?_;rintro e w18 ⟨rfl,hb⟩
 clear kcKS klKS kcKG klKG kcKX klKX kcKH klKH kcKI klKI
 have H18:=hide (yJ H17.out H17.out.size hb);have hs18:=hb.size
 replace KS:=hide (KS.out.below hb KS.out.lt)
 replace KG:=hide (KG.out.below hb KG.out.lt)
 replace KX:=hide (KX.out.below hb KX.out.lt)
 replace KH:=hide (KH.out.below hb KH.out.lt)
 replace KI:=hide (KI.out.below hb KI.out.lt)
 replace O5:=hide (T.ows_all O5.out hb)
 replace OX:=hide (T.ows_all OX.out hb)
 replace O7:=hide (T.ows_all O7.out hb)
 replace O17:=hide (T.ows_all O17.out hb)
 clear hb
 have kcKS:=KS.out.cell;have klKS:=KS.out.lt
 have kcKG:=KG.out.cell;have klKG:=KG.out.lt
 have kcKX:=KX.out.cell;have klKX:=KX.out.lt
 have kcKH:=KH.out.cell;have klKH:=KH.out.lt
 have kcKI:=KI.out.cell;have klKI:=KI.out.lt
 go_wp2_with fail
 refine(bo_heldCache RS _ 1 _ (by omega) (by omega) (T.ows_rds _ _ _ O7.out)).mono ?_;rintro e w19 ⟨rfl,hb⟩;rw[Emr.out]
 clear kcKS klKS kcKG klKG kcKX klKX kcKH klKH kcKI klKI
 have H19:=hide (yJ H18.out H18.out.size hb);have hs19:=hb.size
 replace KS:=hide (KS.out.below hb KS.out.lt)
 replace KG:=hide (KG.out.below hb KG.out.lt)
 replace KX:=hide (KX.out.below hb KX.out.lt)
 replace KH:=hide (KH.out.below hb KH.out.lt)
 replace KI:=hide (KI.out.below hb KI.out.lt)
 replace O5:=hide (T.ows_all O5.out hb)
 replace OX:=hide (T.ows_all OX.out hb)
 replace O7:=hide (T.ows_all O7.out hb)
 replace O17:=hide (T.ows_all O17.out hb)
 clear hb
 have kcKS:=KS.out.cell;have klKS:=KS.out.lt
 have kcKG:=KG.out.cell;have klKG:=KG.out.lt
 have kcKX:=KX.out.cell;have klKX:=KX.out.lt
 have kcKH:=KH.out.cell;have klKH:=KH.out.lt
 have kcKI:=KI.out.cell;have klKI:=KI.out.lt
 go_wp2
 go_ret
 exact⟨rfl,H19.out⟩
end Go.Proofs.YtoibekfhepnedaaGreat
