/- The law EditCache. -/
import Derived.Test.YteiflbhcehajkaaGreatQBrExactEditCache
import Derived.Test.YteiflbhcehajkaaGreatQBsExactEditCache
import Derived.Deep.RegionHeld3
set_option linter.unusedVariables false
set_option linter.unusedSimpArgs false
set_option maxHeartbeats 4000000
set_option maxRecDepth 100000
namespace Go.Proofs.YteiflbhcehajkaaGreat
open Go.RowKit
theorem applyF_small {s:GSession} {e:GEdit} (h:s.small) (hc:(applyF s e).2=0):(applyF s e).1.small∧SessionOk (applyF s e).1:=by
 obtain⟨h1,_,_,_,h5,h6⟩:=applyF_ok hc
 rw[h6]
 exact⟨doE_small h h1,h5⟩
theorem b_szCache (x:GCache) (cs:List Value) (n:Int) (w:World) (hn:0≤n) (hm:n≤1048576) (hg:x.good) (h:T.rds w x.fs cs):Calls Tryz.prog 6 #[.agg cs.toArray,.int .i64 n] w fun e w'=> ∃ m:Int,e= .returned (.int .i64 m)∧ -1≤m∧m≤n∧(0≤m→x.small)∧Below w.heap.size w w':=by
 obtain⟨v1,v2,v3,v4,v5,v6,v7,rfl,h1,h2,h3,h4,h5,h6,h7⟩:=GCache.yL h
 exact c_szCache x _ _ _ _ _ _ _ n w hn hm hg h1 h2 h3 h4 h5 h6 h7
theorem none_small:noSession.small:=by
 refine⟨⟨by simp[noSession],by simp[noSession]⟩,⟨by simp[noSession],by simp[noSession]⟩,by simp[noSession],⟨by simp[noSession],by simp[noSession]⟩,⟨by simp[noSession],by simp[noSession]⟩⟩
theorem applyF_no {s:GSession} {e:GEdit} (h: ¬ (applyF s e).2=0):(applyF s e).1=noSession:=by
 by_cases h1:SessionOk s
 ·by_cases h2:FieldsOk e
  ·by_cases h3:RangeOk s e
   ·by_cases h4:e.zC=1∧12≤(clipsAt s e.zV).length
    ·rw[applyF_full h1 h2 h3 h4.1 h4.2]
    ·by_cases h5:SessionOk (doE s e)
     ·rw[applyF_of h1 h2 h3 h4 h5] at h;exact absurd rfl h
     ·rw[applyF_bad h1 h2 h3 h4 h5]
   ·rw[applyF_range h1 h2 h3]
  ·rw[applyF_fields h1 h2]
 ·rw[applyF_session h1]
theorem applyF_small2 {s:GSession} {e:GEdit} (h:s.small):(applyF s e).1.small:=by
 by_cases hc:(applyF s e).2=0
 ·exact(applyF_small h hc).1
 ·rw[applyF_no hc];exact none_small
theorem noneC_small:noCache.small:=⟨none_small.1,none_small.2.1,none_small.2.2.1,none_small.2.2.2.1,none_small.2.2.2.2,by simp[noCache],by simp[noCache]⟩
theorem editC_small {c:GCache} {e:GEdit} (h:c.small):(editC c e).1.small:=by
 have hs:c.zB.small:=⟨h.1,h.2.1,h.2.2.1,h.2.2.2.1,h.2.2.2.2.1⟩
 by_cases hv:CacheOk c
 ·by_cases hc:(applyF c.zB e).2=0
  ·rw[editC_yes hv hc]
   have ha:(applyF c.zB e).1.small:=applyF_small2 hs
   have hl:=yY.1 hv.session.length
   have hm:=marksF_len c.zU (rangeOf c.zB e).1 (rangeOf c.zB e).2 (blocksF c.zB.zA).toNat
   have hn:(blocksF c.zB.zA).toNat≤63:=by unfold blocksF;omega
   exact⟨ha.1,ha.2.1,ha.2.2.1,ha.2.2.2.1,ha.2.2.2.2,h.2.2.2.2.2.1,by show (marksF _ _ _ _).length≤_;omega⟩
  ·rw[editC_no hv hc];exact noneC_small
 ·rw[editC_bad hv];exact noneC_small
theorem law_EditCache (x:GCache) (cs:List Value) (ed:GEdit) (ds:List Value) (w:World) (hx:T.rds w x.fs cs) (gx:x.good) (hy:T.rds w ed.fs ds) (gy:ed.good):Calls Tryz.prog 5 #[.agg cs.toArray,.agg ds.toArray] w fun e w'=>e= .returned (.bool true)∧Below w.heap.size w w':=by
 have HX:=hide hx
 obtain⟨v1,v2,v3,v4,v5,v6,v7,rfl,vr1,vr2,vr3,vr4,vr5,vr6,vr7⟩:=GCache.yL hx
 obtain⟨va1,vl1,vc1,rfl⟩:=T.yS vr1;clear vr1
 obtain⟨va2,vl2,vc2,rfl⟩:=T.yS vr2;clear vr2
 obtain⟨va3,vl3,vc3,rfl⟩:=T.yS vr3;clear vr3
 obtain⟨va4,vl4,vc4,rfl⟩:=T.yS vr4;clear vr4
 obtain⟨va5,vl5,vc5,rfl⟩:=T.yS vr5;clear vr5
 obtain⟨va6,vl6,vc6,rfl⟩:=T.yS vr6;clear vr6
 obtain⟨va7,vl7,vc7,rfl⟩:=T.yS vr7;clear vr7
 obtain rfl:=GEdit.yL hy
 clear hx hy gy
 have H0:=hide (show Below w.heap.size w ((w.alloc (.cells #[.int .i64 x.zB.zA,(.slice va1 vl1 vc1),(.slice va2 vl2 vc2),(.slice va3 vl3 vc3),(.slice va4 vl4 vc4),(.slice va5 vl5 vc5),(.slice va6 vl6 vc6),(.slice va7 vl7 vc7)] 32)).alloc (.cells #[.int .i64 ed.zC,.int .i64 ed.zV,.int .i64 ed.zZ,.int .i64 ed.zY,.int .i64 ed.zP.zO,.int .i64 ed.zP.zI,.int .i64 ed.zP.zA,.int .i64 ed.zP.zW,.int .i64 ed.zP.zQ] 58)) from((Below.refl _ _).alloc (Nat.le_refl _) _).alloc (by simp) _)
 have KS:=hide ((Bk.born w 32 #[.int .i64 x.zB.zA,(.slice va1 vl1 vc1),(.slice va2 vl2 vc2),(.slice va3 vl3 vc3),(.slice va4 vl4 vc4),(.slice va5 vl5 vc5),(.slice va6 vl6 vc6),(.slice va7 vl7 vc7)]).alloc (.cells #[.int .i64 ed.zC,.int .i64 ed.zV,.int .i64 ed.zZ,.int .i64 ed.zY,.int .i64 ed.zP.zO,.int .i64 ed.zP.zI,.int .i64 ed.zP.zA,.int .i64 ed.zP.zW,.int .i64 ed.zP.zQ] 58))
 have KE:=hide (Bk.born1' w (.cells #[.int .i64 x.zB.zA,(.slice va1 vl1 vc1),(.slice va2 vl2 vc2),(.slice va3 vl3 vc3),(.slice va4 vl4 vc4),(.slice va5 vl5 vc5),(.slice va6 vl6 vc6),(.slice va7 vl7 vc7)] 32) 58 #[.int .i64 ed.zC,.int .i64 ed.zV,.int .i64 ed.zZ,.int .i64 ed.zY,.int .i64 ed.zP.zO,.int .i64 ed.zP.zI,.int .i64 ed.zP.zA,.int .i64 ed.zP.zW,.int .i64 ed.zP.zQ])
 go_enter Tryz.func5,Tryz.ntmps5
 have kcKS:=KS.out.cell;have klKS:=KS.out.lt
 have kcKE:=KE.out.cell;have klKE:=KE.out.lt
 go_wp2_with fail
 refine(b_szCache x _ 1048576 _ (by omega) (by omega) gx (T.rds_below HX.out H0.out)).mono ?_;rintro e w1 ⟨m,rfl,hm0,hm1,hsx,hb⟩
 clear kcKS klKS kcKE klKE
 have H1:=hide (yG H0.out H0.out.size hb);have hs1:=hb.size
 replace KS:=hide (KS.out.below hb KS.out.lt)
 replace KE:=hide (KE.out.below hb KE.out.lt)
 clear hb
 have kcKS:=KS.out.cell;have klKS:=KS.out.lt
 have kcKE:=KE.out.cell;have klKE:=KE.out.lt
 have hz1:w.heap.size+1<w1.heap.size:=KE.out.lt
 by_cases cm:m<0
 ·go_wp2
  go_ret
  exact⟨rfl,H1.out⟩
 have sx:=hsx (by omega)
 have hcx:=GCache.cntv_le sx
 obtain⟨RS,rc,hR⟩: ∃ RS rc,editC x ed=(RS,rc):=⟨_,_,rfl⟩
 have hne:(rc != rc)=false:=by simp
 have srs:RS.small:=by have:=editC_small (e:=ed) sx;rw[hR] at this;exact this
 have hcr:=GCache.cntv_le srs
 have SI:=hide (fun(W:World) (ds:List Value) (h:T.rds W x.fs ds)=>(by have:=c_sEditCache x ds ed W sx h;rw[hR] at this;exact this:Calls Tryz.prog 19 #[.agg ds.toArray,.agg #[.int .i64 ed.zC,.int .i64 ed.zV,.int .i64 ed.zZ,.int .i64 ed.zY,.int .i64 ed.zP.zO,.int .i64 ed.zP.zI,.int .i64 ed.zP.zA,.int .i64 ed.zP.zW,.int .i64 ed.zP.zQ]] W fun e w'=> ∃ v1 v2 v3 v4 v5 v6 v7 F,e= .returned (.tuple #[.agg #[.int .i64 RS.zB.zA,v1,v2,v3,v4,v5,v6,v7],.int .i64 rc])∧Nw W w' RS.fs F [.int .i64 RS.zB.zA,v1,v2,v3,v4,v5,v6,v7]))
 have II:=hide (fun(W:World) (ds:List Value) (h:T.rds W x.fs ds)=>(by have:=c_iEditCache x ds ed W sx h;rw[hR] at this;exact this:Calls Tryz.prog 21 #[.agg ds.toArray,.agg #[.int .i64 ed.zC,.int .i64 ed.zV,.int .i64 ed.zZ,.int .i64 ed.zY,.int .i64 ed.zP.zO,.int .i64 ed.zP.zI,.int .i64 ed.zP.zA,.int .i64 ed.zP.zW,.int .i64 ed.zP.zQ]] W fun e w'=> ∃ v1 v2 v3 v4 v5 v6 v7 F,e= .returned (.tuple #[.agg #[.int .i64 RS.zB.zA,v1,v2,v3,v4,v5,v6,v7],.int .i64 rc])∧Nw W w' RS.fs F [.int .i64 RS.zB.zA,v1,v2,v3,v4,v5,v6,v7]))
 have SRS:=hide srs;clear hR srs
 clear kcKS klKS kcKE klKE
 go_wp2_with fail
 rename_i Q5 K5 hK5
 have REST5: ∀ (g5:Nat) (u16 u17 u18 u19 u20 u21 u22 u23 u24 u25 u26 u27 u28:Value) (A1r5:Option Addr) (L1r5 C1r5:Nat) (A2r5:Option Addr) (L2r5 C2r5:Nat) (A3r5:Option Addr) (L3r5 C3r5:Nat) (A4r5:Option Addr) (L4r5 C4r5:Nat) (A5r5:Option Addr) (L5r5 C5r5:Nat) (A6r5:Option Addr) (L6r5 C6r5:Nat) (A7r5:Option Addr) (L7r5 C7r5:Nat) (F5:List Nat) (W:World),Bk W g5 43 #[.int .i64 RS.zB.zA,.slice A1r5 L1r5 C1r5,.slice A2r5 L2r5 C2r5,.slice A3r5 L3r5 C3r5,.slice A4r5 L4r5 C4r5,.slice A5r5 L5r5 C5r5,.slice A6r5 L6r5 C6r5,.slice A7r5 L7r5 C7r5]→w1.heap.size≤g5→Below w1.heap.size w1 W→T.ows W RS.fs F5 [.int .i64 RS.zB.zA,.slice A1r5 L1r5 C1r5,.slice A2r5 L2r5 C2r5,.slice A3r5 L3r5 C3r5,.slice A4r5 L4r5 C4r5,.slice A5r5 L5r5 C5r5,.slice A6r5 L6r5 C6r5,.slice A7r5 L7r5 C7r5]→F5.Nodup→(∀ b ∈ F5,w1.heap.size≤b∧b≠g5)→K5 { tmps:= #[.agg #[.int .i64 x.zB.zA,(.slice va1 vl1 vc1),(.slice va2 vl2 vc2),(.slice va3 vl3 vc3),(.slice va4 vl4 vc4),(.slice va5 vl5 vc5),(.slice va6 vl6 vc6),(.slice va7 vl7 vc7)],.agg #[.int .i64 ed.zC,.int .i64 ed.zV,.int .i64 ed.zZ,.int .i64 ed.zY,.int .i64 ed.zP.zO,.int .i64 ed.zP.zI,.int .i64 ed.zP.zA,.int .i64 ed.zP.zW,.int .i64 ed.zP.zQ],.pointer (some ⟨w.heap.size,0,none⟩),.pointer (some ⟨w.heap.size+1,0,none⟩),.bool false,.int .i64 m,.pointer (some ⟨g5,0,none⟩),.int .i64 rc,undef,undef,undef,undef,undef,undef,undef,undef,u16,u17,u18,u19,u20,u21,u22,u23,u24,u25,u26,u27,u28,undef,undef,undef,undef,undef,undef,undef,undef,undef,undef,undef,undef,undef,undef,undef,undef,undef,undef,undef,undef,undef,undef,undef,undef,undef,undef,undef,undef,undef,undef,undef,undef,undef,undef,undef,undef,undef,undef,undef,undef,undef,undef,undef,undef,undef,undef,undef,undef,undef,undef,undef,undef,undef,undef,undef,undef,undef,undef,undef,undef,undef,undef,undef,undef,undef,undef,undef,undef,undef,undef,undef,undef,undef,undef,undef],defers:= [] } W:=by
  intro g5 u16 u17 u18 u19 u20 u21 u22 u23 u24 u25 u26 u27 u28 A1r5 L1r5 C1r5 A2r5 L2r5 C2r5 A3r5 L3r5 C3r5 A4r5 L4r5 C4r5 A5r5 L5r5 C5r5 A6r5 L6r5 C6r5 A7r5 L7r5 C7r5 F5 w2 bx gl hb hO hN hL
  have O5:=hide hO;have N5:=hide hN;have L5:=hide hL;have I5:=hide (T.ows_lt _ _ _ hO);clear hO hN hL
  have gl5:w1.heap.size≤g5:=gl;have gh5:g5<w2.heap.size:=bx.lt
  refine hK5 _ _ ?_
  clear hK5 K5
  have KBg5:=hide bx;have HGg5:=hide gl;have HGBg5:=hide hb;clear bx gl
  have H2:=hide (yG H1.out H1.out.size hb);have hs2:=hb.size
  replace KS:=hide (KS.out.below hb KS.out.lt)
  replace KE:=hide (KE.out.below hb KE.out.lt)
  clear hb
  have kcKS:=KS.out.cell;have klKS:=KS.out.lt
  have kcKE:=KE.out.cell;have klKE:=KE.out.lt
  have kcKBg5:=KBg5.out.cell;have klKBg5:=KBg5.out.lt
  go_wp2_with fail
  refine(bo_toCache x _ _ sx (T.rds_below HX.out H2.out)).mono ?_;rintro e w3 ⟨ds,FX,rfl,hN⟩
  have OX:=hide hN.ows;have NX:=hide hN.nodup;have LX:=hide hN.lo;have IX:=hide hN.lt;have hb:=hN.below;have hds:=T.ows_rds _ _ _ hN.ows;clear hN
  clear kcKS klKS kcKE klKE kcKBg5 klKBg5
  have H3:=hide (yG H2.out H2.out.size hb);have hs3:=hb.size
  replace KS:=hide (KS.out.below hb KS.out.lt)
  replace KE:=hide (KE.out.below hb KE.out.lt)
  replace KBg5:=hide (KBg5.out.below hb KBg5.out.lt)
  replace O5:=hide (T.ows_all O5.out hb)
  clear hb
  have kcKS:=KS.out.cell;have klKS:=KS.out.lt
  have kcKE:=KE.out.cell;have klKE:=KE.out.lt
  have kcKBg5:=KBg5.out.cell;have klKBg5:=KBg5.out.lt
  obtain⟨t1,t2,t3,t4,t5,t6,t7,rfl,tr1,tr2,tr3,tr4,tr5,tr6,tr7⟩:=GCache.yL hds
  obtain⟨ta1,tl1,tc1,rfl⟩:=T.yS tr1;clear tr1
  obtain⟨ta2,tl2,tc2,rfl⟩:=T.yS tr2;clear tr2
  obtain⟨ta3,tl3,tc3,rfl⟩:=T.yS tr3;clear tr3
  obtain⟨ta4,tl4,tc4,rfl⟩:=T.yS tr4;clear tr4
  obtain⟨ta5,tl5,tc5,rfl⟩:=T.yS tr5;clear tr5
  obtain⟨ta6,tl6,tc6,rfl⟩:=T.yS tr6;clear tr6
  obtain⟨ta7,tl7,tc7,rfl⟩:=T.yS tr7;clear tr7
  go_wp2_with fail
  clear kcKS klKS kcKE klKE kcKBg5 klKBg5
  have hb:Below w3.heap.size w3 (w3.alloc (.cells #[.int .i64 x.zB.zA,(.slice ta1 tl1 tc1),(.slice ta2 tl2 tc2),(.slice ta3 tl3 tc3),(.slice ta4 tl4 tc4),(.slice ta5 tl5 tc5),(.slice ta6 tl6 tc6),(.slice ta7 tl7 tc7)] 43)):=(Below.refl _ _).alloc (Nat.le_refl _) _
  have KX:=hide (Bk.born w3 43 #[.int .i64 x.zB.zA,(.slice ta1 tl1 tc1),(.slice ta2 tl2 tc2),(.slice ta3 tl3 tc3),(.slice ta4 tl4 tc4),(.slice ta5 tl5 tc5),(.slice ta6 tl6 tc6),(.slice ta7 tl7 tc7)])
  generalize (w3.alloc (.cells #[.int .i64 x.zB.zA,(.slice ta1 tl1 tc1),(.slice ta2 tl2 tc2),(.slice ta3 tl3 tc3),(.slice ta4 tl4 tc4),(.slice ta5 tl5 tc5),(.slice ta6 tl6 tc6),(.slice ta7 tl7 tc7)] 43))=w4 at *
  have ghKX:w3.heap.size<w4.heap.size:=KX.out.lt
  have H4:=hide (yG H3.out H3.out.size hb);have hs4:=hb.size
  replace KS:=hide (KS.out.below hb KS.out.lt)
  replace KE:=hide (KE.out.below hb KE.out.lt)
  replace KBg5:=hide (KBg5.out.below hb KBg5.out.lt)
  replace O5:=hide (T.ows_all O5.out hb)
  replace OX:=hide (T.ows_all OX.out hb)
  clear hb
  have kcKS:=KS.out.cell;have klKS:=KS.out.lt
  have kcKE:=KE.out.cell;have klKE:=KE.out.lt
  have kcKBg5:=KBg5.out.cell;have klKBg5:=KBg5.out.lt
  have kcKX:=KX.out.cell;have klKX:=KX.out.lt
  clear kcKS klKS kcKE klKE kcKBg5 klKBg5 kcKX klKX
  go_wp2_with fail
  rename_i Q7 K7 hK7
  have REST7: ∀ (g7:Nat) (u16 u17 u18 u19 u20 u21 u22 u23 u24 u25 u26 u27 u28 u29 u30 u31 u32 u33 u34 u35 u36 u37:Value) (A1r7:Option Addr) (L1r7 C1r7:Nat) (A2r7:Option Addr) (L2r7 C2r7:Nat) (A3r7:Option Addr) (L3r7 C3r7:Nat) (A4r7:Option Addr) (L4r7 C4r7:Nat) (A5r7:Option Addr) (L5r7 C5r7:Nat) (A6r7:Option Addr) (L6r7 C6r7:Nat) (A7r7:Option Addr) (L7r7 C7r7:Nat) (F7:List Nat) (W:World),Bk W g7 43 #[.int .i64 RS.zB.zA,.slice A1r7 L1r7 C1r7,.slice A2r7 L2r7 C2r7,.slice A3r7 L3r7 C3r7,.slice A4r7 L4r7 C4r7,.slice A5r7 L5r7 C5r7,.slice A6r7 L6r7 C6r7,.slice A7r7 L7r7 C7r7]→w4.heap.size≤g7→Below w4.heap.size w4 W→T.ows W RS.fs F7 [.int .i64 RS.zB.zA,.slice A1r7 L1r7 C1r7,.slice A2r7 L2r7 C2r7,.slice A3r7 L3r7 C3r7,.slice A4r7 L4r7 C4r7,.slice A5r7 L5r7 C5r7,.slice A6r7 L6r7 C6r7,.slice A7r7 L7r7 C7r7]→F7.Nodup→(∀ b ∈ F7,w4.heap.size≤b∧b≠g7)→K7 { tmps:= #[.agg #[.int .i64 x.zB.zA,(.slice va1 vl1 vc1),(.slice va2 vl2 vc2),(.slice va3 vl3 vc3),(.slice va4 vl4 vc4),(.slice va5 vl5 vc5),(.slice va6 vl6 vc6),(.slice va7 vl7 vc7)],.agg #[.int .i64 ed.zC,.int .i64 ed.zV,.int .i64 ed.zZ,.int .i64 ed.zY,.int .i64 ed.zP.zO,.int .i64 ed.zP.zI,.int .i64 ed.zP.zA,.int .i64 ed.zP.zW,.int .i64 ed.zP.zQ],.pointer (some ⟨w.heap.size,0,none⟩),.pointer (some ⟨w.heap.size+1,0,none⟩),.bool false,.int .i64 m,.pointer (some ⟨g5,0,none⟩),.int .i64 rc,.pointer (some ⟨w3.heap.size,0,none⟩),.pointer (some ⟨g7,0,none⟩),.int .i64 rc,undef,undef,undef,undef,undef,u16,u17,u18,u19,u20,u21,u22,u23,u24,u25,u26,u27,u28,u29,u30,u31,u32,u33,u34,u35,u36,u37,undef,undef,undef,undef,undef,undef,undef,undef,undef,undef,undef,undef,undef,undef,undef,undef,undef,undef,undef,undef,undef,undef,undef,undef,undef,undef,undef,undef,undef,undef,undef,undef,undef,undef,undef,undef,undef,undef,undef,undef,undef,undef,undef,undef,undef,undef,undef,undef,undef,undef,undef,undef,undef,undef,undef,undef,undef,undef,undef,undef,undef,undef,undef,undef,undef,undef],defers:= [] } W:=by
   intro g7 u16 u17 u18 u19 u20 u21 u22 u23 u24 u25 u26 u27 u28 u29 u30 u31 u32 u33 u34 u35 u36 u37 A1r7 L1r7 C1r7 A2r7 L2r7 C2r7 A3r7 L3r7 C3r7 A4r7 L4r7 C4r7 A5r7 L5r7 C5r7 A6r7 L6r7 C6r7 A7r7 L7r7 C7r7 F7 w5 bx gl hb hO hN hL
   have O7:=hide hO;have N7:=hide hN;have L7:=hide hL;have I7:=hide (T.ows_lt _ _ _ hO);clear hO hN hL
   have gl7:w4.heap.size≤g7:=gl;have gh7:g7<w5.heap.size:=bx.lt
   refine hK7 _ _ ?_
   clear hK7 K7
   have KBg7:=hide bx;have HGg7:=hide gl;have HGBg7:=hide hb;clear bx gl
   have H5:=hide (yG H4.out H4.out.size hb);have hs5:=hb.size
   replace KS:=hide (KS.out.below hb KS.out.lt)
   replace KE:=hide (KE.out.below hb KE.out.lt)
   replace KBg5:=hide (KBg5.out.below hb KBg5.out.lt)
   replace KX:=hide (KX.out.below hb KX.out.lt)
   replace O5:=hide (T.ows_all O5.out hb)
   replace OX:=hide (T.ows_all OX.out hb)
   clear hb
   have kcKS:=KS.out.cell;have klKS:=KS.out.lt
   have kcKE:=KE.out.cell;have klKE:=KE.out.lt
   have kcKBg5:=KBg5.out.cell;have klKBg5:=KBg5.out.lt
   have kcKX:=KX.out.cell;have klKX:=KX.out.lt
   have kcKBg7:=KBg7.out.cell;have klKBg7:=KBg7.out.lt
   go_wp2_with fail
   refine(b_eqCache RS _ _ _ (T.ows_rds _ _ _ O7.out) (T.ows_rds _ _ _ O5.out)).mono ?_;rintro e w6 ⟨rfl,hb⟩
   clear kcKS klKS kcKE klKE kcKBg5 klKBg5 kcKX klKX kcKBg7 klKBg7
   have H6:=hide (yG H5.out H5.out.size hb);have hs6:=hb.size
   replace KS:=hide (KS.out.below hb KS.out.lt)
   replace KE:=hide (KE.out.below hb KE.out.lt)
   replace KBg5:=hide (KBg5.out.below hb KBg5.out.lt)
   replace KX:=hide (KX.out.below hb KX.out.lt)
   replace KBg7:=hide (KBg7.out.below hb KBg7.out.lt)
   replace O5:=hide (T.ows_all O5.out hb)
   replace OX:=hide (T.ows_all OX.out hb)
   replace O7:=hide (T.ows_all O7.out hb)
   clear hb
   have kcKS:=KS.out.cell;have klKS:=KS.out.lt
   have kcKE:=KE.out.cell;have klKE:=KE.out.lt
   have kcKBg5:=KBg5.out.cell;have klKBg5:=KBg5.out.lt
   have kcKX:=KX.out.cell;have klKX:=KX.out.lt
   have kcKBg7:=KBg7.out.cell;have klKBg7:=KBg7.out.lt
   clear kcKS klKS kcKE klKE kcKBg5 klKBg5 kcKX klKX kcKBg7 klKBg7
   go_wp2_with fail
   go_region_held3 (fun w'=>(∀ i,w'.cell? ⟨w3.heap.size,i,none⟩= #[.int .i64 x.zB.zA,(.slice ta1 tl1 tc1),(.slice ta2 tl2 tc2),(.slice ta3 tl3 tc3),(.slice ta4 tl4 tc4),(.slice ta5 tl5 tc5),(.slice ta6 tl6 tc6),(.slice ta7 tl7 tc7)][i]?)∧(∀ i,w'.cell? ⟨w.heap.size,i,none⟩= #[.int .i64 x.zB.zA,(.slice va1 vl1 vc1),(.slice va2 vl2 vc2),(.slice va3 vl3 vc3),(.slice va4 vl4 vc4),(.slice va5 vl5 vc5),(.slice va6 vl6 vc6),(.slice va7 vl7 vc7)][i]?)) ((((try simp only[World.cell?_drew]));first|with_reducible exact⟨KX.out.cell,KS.out.cell⟩|with_reducible exact⟨KX10_0.out.cell,KS10_0.out.cell⟩|with_reducible exact⟨KX10_1.out.cell,KS10_1.out.cell⟩|(trace_state;fail))) (first|(go_at_call 8;refine(b_toCache x _ _ sx (T.rds_below HX.out (by first|with_reducible exact H6.out|with_reducible exact H6.out.drew|with_reducible exact(below_drewN H6.out _)|with_reducible exact(H6.out.alloc (H6.out.size) _)|with_reducible exact(H6.out.alloc (H6.out.size) _).drew|with_reducible exact((H6.out.drew).alloc (H6.out.size) _)|with_reducible exact(below_drewN (H6.out.alloc (H6.out.size) _) _)|with_reducible exact((below_drewN H6.out _).alloc (H6.out.size) _)))).mono ?_;rintro e wA10 ⟨ds,rfl,hds,hb⟩;have E10_0:=hide (show Below w6.heap.size w6 wA10 from(by first|with_reducible exact hb|with_reducible exact undrew hb|with_reducible exact undrewN hb|with_reducible exact yJ hb|with_reducible exact undrew (yJ hb)|with_reducible exact yJ (undrew hb)|with_reducible exact undrewN (yJ hb)|with_reducible exact yJ (undrewN hb)));have D10_0:=hide (show Below w6.heap.size w6 wA10 from E10_0.out);have KX10_0:=hide (KX.out.below D10_0.out KX.out.lt);have KS10_0:=hide (KS.out.below D10_0.out KS.out.lt);clear hb)|(go_at_call 10;refine(b_eqCache x _ _ _ (T.rds_below (T.ows_rds _ _ _ OX.out) (by first|with_reducible exact D10_0.out|with_reducible exact D10_0.out.drew|with_reducible exact(below_drewN D10_0.out _)|with_reducible exact(D10_0.out.alloc (D10_0.out.size) _)|with_reducible exact(D10_0.out.alloc (D10_0.out.size) _).drew|with_reducible exact((D10_0.out.drew).alloc (D10_0.out.size) _)|with_reducible exact(below_drewN (D10_0.out.alloc (D10_0.out.size) _) _)|with_reducible exact((below_drewN D10_0.out _).alloc (D10_0.out.size) _))) (T.rds_below hds (by first|with_reducible exact(Below.refl _ _)|with_reducible exact(Below.refl _ _).drew|with_reducible exact(below_drewN (Below.refl _ _) _)|with_reducible exact((Below.refl _ _).alloc (Nat.le_refl _) _)|with_reducible exact((Below.refl _ _).alloc (Nat.le_refl _) _).drew|with_reducible exact(((Below.refl _ _).drew).alloc (Nat.le_refl _) _)|with_reducible exact(below_drewN ((Below.refl _ _).alloc (Nat.le_refl _) _) _)|with_reducible exact((below_drewN (Below.refl _ _) _).alloc (Nat.le_refl _) _)))).mono ?_;rintro e wB10 ⟨rfl,hb⟩;have E10_1:=hide (show Below wA10.heap.size wA10 wB10 from(by first|with_reducible exact hb|with_reducible exact undrew hb|with_reducible exact undrewN hb|with_reducible exact yJ hb|with_reducible exact undrew (yJ hb)|with_reducible exact yJ (undrew hb)|with_reducible exact undrewN (yJ hb)|with_reducible exact yJ (undrewN hb)));have D10_1:=hide (show Below w6.heap.size w6 wB10 from yG D10_0.out D10_0.out.size E10_1.out);have KX10_1:=hide (KX.out.below D10_1.out KX.out.lt);have KS10_1:=hide (KS.out.below D10_1.out KS.out.lt);clear hb))
   have hb:=D10_1.out
   generalize wB10=w7 at *
   have H7:=hide (yG H6.out H6.out.size hb);have hs7:=hb.size
   replace KS:=hide (KS.out.below hb KS.out.lt)
   replace KE:=hide (KE.out.below hb KE.out.lt)
   replace KBg5:=hide (KBg5.out.below hb KBg5.out.lt)
   replace KX:=hide (KX.out.below hb KX.out.lt)
   replace KBg7:=hide (KBg7.out.below hb KBg7.out.lt)
   replace O5:=hide (T.ows_all O5.out hb)
   replace OX:=hide (T.ows_all OX.out hb)
   replace O7:=hide (T.ows_all O7.out hb)
   clear hb
   have kcKS:=KS.out.cell;have klKS:=KS.out.lt
   have kcKE:=KE.out.cell;have klKE:=KE.out.lt
   have kcKBg5:=KBg5.out.cell;have klKBg5:=KBg5.out.lt
   have kcKX:=KX.out.cell;have klKX:=KX.out.lt
   have kcKBg7:=KBg7.out.cell;have klKBg7:=KBg7.out.lt
   go_wp2_with fail
   refine(bo_markCache x _ FX 1 _ (by omega) (by omega) OX.out NX.out).mono ?_;rintro e w8 ⟨rfl,hO,hT⟩
   obtain⟨mx,hmx,pmx⟩: ∃ mm:Int,((1+x.cntv:Nat):Int)=mm∧0<mm:=⟨_,rfl,by omega⟩
   have nmx: ¬ mx<0:=by omega
   rw[hmx];have Emx:=hide hmx;clear hmx
   clear kcKS klKS kcKE klKE kcKBg5 klKBg5 kcKX klKX kcKBg7 klKBg7
   have H8:=hide (hT.below H7.out (fun b hb=>by have h1:=LX.out b hb;omega) H7.out.size);have hs8:=hT.size
   replace KS:=hide (KS.out.trn hT (fun hm=>by have h1:=LX.out _ hm;have h2:=IX.out _ hm;omega))
   replace KE:=hide (KE.out.trn hT (fun hm=>by have h1:=LX.out _ hm;have h2:=IX.out _ hm;omega))
   replace KBg5:=hide (KBg5.out.trn hT (fun hm=>by have h1:=LX.out _ hm;have h2:=IX.out _ hm;omega))
   replace KX:=hide (KX.out.trn hT (fun hm=>by have h1:=LX.out _ hm;have h2:=IX.out _ hm;omega))
   replace KBg7:=hide (KBg7.out.trn hT (fun hm=>by have h1:=LX.out _ hm;have h2:=IX.out _ hm;omega))
   replace O5:=hide (T.ows_trn O5.out hT (fun b hb hm=>by have h1:=LX.out _ hm;have h2:=IX.out _ hm;have h3:=L5.out b hb;have h4:=I5.out b hb;omega))
   replace O7:=hide (T.ows_trn O7.out hT (fun b hb hm=>by have h1:=LX.out _ hm;have h2:=IX.out _ hm;have h3:=L7.out b hb;have h4:=I7.out b hb;omega))
   clear hT
   have kcKS:=KS.out.cell;have klKS:=KS.out.lt
   have kcKE:=KE.out.cell;have klKE:=KE.out.lt
   have kcKBg5:=KBg5.out.cell;have klKBg5:=KBg5.out.lt
   have kcKX:=KX.out.cell;have klKX:=KX.out.lt
   have kcKBg7:=KBg7.out.cell;have klKBg7:=KBg7.out.lt
   clear OX;have OX:=hide hO;clear hO
   go_wp2_with fail
   refine(b_eqCache RS _ _ _ (T.ows_rds _ _ _ O7.out) (T.ows_rds _ _ _ O5.out)).mono ?_;rintro e w9 ⟨rfl,hb⟩
   clear kcKS klKS kcKE klKE kcKBg5 klKBg5 kcKX klKX kcKBg7 klKBg7
   have H9:=hide (yG H8.out H8.out.size hb);have hs9:=hb.size
   replace KS:=hide (KS.out.below hb KS.out.lt)
   replace KE:=hide (KE.out.below hb KE.out.lt)
   replace KBg5:=hide (KBg5.out.below hb KBg5.out.lt)
   replace KX:=hide (KX.out.below hb KX.out.lt)
   replace KBg7:=hide (KBg7.out.below hb KBg7.out.lt)
   replace O5:=hide (T.ows_all O5.out hb)
   replace O7:=hide (T.ows_all O7.out hb)
   replace OX:=hide (T.ows_all OX.out hb)
   clear hb
   have kcKS:=KS.out.cell;have klKS:=KS.out.lt
   have kcKE:=KE.out.cell;have klKE:=KE.out.lt
   have kcKBg5:=KBg5.out.cell;have klKBg5:=KBg5.out.lt
   have kcKX:=KX.out.cell;have klKX:=KX.out.lt
   have kcKBg7:=KBg7.out.cell;have klKBg7:=KBg7.out.lt
   go_wp2_with fail
   refine(bo_markCache RS _ F7 1 _ (by omega) (by omega) O7.out N7.out).mono ?_;rintro e w10 ⟨rfl,hO,hT⟩
   obtain⟨mr,hmr,pmr⟩: ∃ mm:Int,((1+RS.cntv:Nat):Int)=mm∧0<mm:=⟨_,rfl,by omega⟩
   have nmr: ¬ mr<0:=by omega
   rw[hmr];have Emr:=hide hmr;clear hmr
   clear kcKS klKS kcKE klKE kcKBg5 klKBg5 kcKX klKX kcKBg7 klKBg7
   have H10:=hide (hT.below H9.out (fun b hb=>by have h1:=L7.out b hb;omega) H9.out.size);have hs10:=hT.size
   replace KS:=hide (KS.out.trn hT (fun hm=>by have h1:=L7.out _ hm;have h2:=I7.out _ hm;omega))
   replace KE:=hide (KE.out.trn hT (fun hm=>by have h1:=L7.out _ hm;have h2:=I7.out _ hm;omega))
   replace KBg5:=hide (KBg5.out.trn hT (fun hm=>by have h1:=L7.out _ hm;have h2:=I7.out _ hm;omega))
   replace KX:=hide (KX.out.trn hT (fun hm=>by have h1:=L7.out _ hm;have h2:=I7.out _ hm;omega))
   replace KBg7:=hide (KBg7.out.trn hT (fun hm=>by have h1:=L7.out _ hm;have h2:=I7.out _ hm;omega))
   replace O5:=hide (T.ows_trn O5.out hT (fun b hb hm=>by have h1:=L7.out _ hm;have h2:=I7.out _ hm;have h3:=L5.out b hb;have h4:=I5.out b hb;omega))
   replace OX:=hide (T.ows_trn OX.out hT (fun b hb hm=>by have h1:=L7.out _ hm;have h2:=I7.out _ hm;have h3:=LX.out b hb;have h4:=IX.out b hb;omega))
   clear hT
   have kcKS:=KS.out.cell;have klKS:=KS.out.lt
   have kcKE:=KE.out.cell;have klKE:=KE.out.lt
   have kcKBg5:=KBg5.out.cell;have klKBg5:=KBg5.out.lt
   have kcKX:=KX.out.cell;have klKX:=KX.out.lt
   have kcKBg7:=KBg7.out.cell;have klKBg7:=KBg7.out.lt
   clear O7;have O7:=hide hO;clear hO
   have hqe:(mr != mr)=false:=by simp
   go_wp2_with fail
   refine(bo_heldCache RS _ 1 _ (by omega) (by omega) (T.ows_rds _ _ _ O7.out)).mono ?_;rintro e w11 ⟨rfl,hb⟩;rw[Emr.out]
   clear kcKS klKS kcKE klKE kcKBg5 klKBg5 kcKX klKX kcKBg7 klKBg7
   have H11:=hide (yG H10.out H10.out.size hb);have hs11:=hb.size
   replace KS:=hide (KS.out.below hb KS.out.lt)
   replace KE:=hide (KE.out.below hb KE.out.lt)
   replace KBg5:=hide (KBg5.out.below hb KBg5.out.lt)
   replace KX:=hide (KX.out.below hb KX.out.lt)
   replace KBg7:=hide (KBg7.out.below hb KBg7.out.lt)
   replace O5:=hide (T.ows_all O5.out hb)
   replace OX:=hide (T.ows_all OX.out hb)
   replace O7:=hide (T.ows_all O7.out hb)
   clear hb
   have kcKS:=KS.out.cell;have klKS:=KS.out.lt
   have kcKE:=KE.out.cell;have klKE:=KE.out.lt
   have kcKBg5:=KBg5.out.cell;have klKBg5:=KBg5.out.lt
   have kcKX:=KX.out.cell;have klKX:=KX.out.lt
   have kcKBg7:=KBg7.out.cell;have klKBg7:=KBg7.out.lt
   clear kcKS klKS kcKE klKE kcKBg5 klKBg5 kcKX klKX kcKBg7 klKBg7
   go_wp2_with fail
   rename_i Q24 K24 hK24
   have REST24: ∀ (g24:Nat) (u16 u17 u18 u19 u20 u21 u22 u23 u24 u25 u26 u27 u28 u29 u30 u31 u32 u33 u34 u35 u36 u37 u38 u39 u40 u41 u42 u43 u44 u45 u46 u47 u48 u49 u50 u51 u52 u53 u54 u55 u56 u57 u58 u59 u60 u61 u62 u63 u64 u65 u66 u67 u68 u69 u70 u71 u72 u73 u74 u75 u76 u77 u78 u79 u80 u81 u82 u83 u84 u85 u86:Value) (A1r24:Option Addr) (L1r24 C1r24:Nat) (A2r24:Option Addr) (L2r24 C2r24:Nat) (A3r24:Option Addr) (L3r24 C3r24:Nat) (A4r24:Option Addr) (L4r24 C4r24:Nat) (A5r24:Option Addr) (L5r24 C5r24:Nat) (A6r24:Option Addr) (L6r24 C6r24:Nat) (A7r24:Option Addr) (L7r24 C7r24:Nat) (F24:List Nat) (W:World),Bk W g24 43 #[.int .i64 RS.zB.zA,.slice A1r24 L1r24 C1r24,.slice A2r24 L2r24 C2r24,.slice A3r24 L3r24 C3r24,.slice A4r24 L4r24 C4r24,.slice A5r24 L5r24 C5r24,.slice A6r24 L6r24 C6r24,.slice A7r24 L7r24 C7r24]→w11.heap.size≤g24→Below w11.heap.size w11 W→T.ows W RS.fs F24 [.int .i64 RS.zB.zA,.slice A1r24 L1r24 C1r24,.slice A2r24 L2r24 C2r24,.slice A3r24 L3r24 C3r24,.slice A4r24 L4r24 C4r24,.slice A5r24 L5r24 C5r24,.slice A6r24 L6r24 C6r24,.slice A7r24 L7r24 C7r24]→F24.Nodup→(∀ b ∈ F24,w11.heap.size≤b∧b≠g24)→K24 { tmps:= #[.agg #[.int .i64 x.zB.zA,(.slice va1 vl1 vc1),(.slice va2 vl2 vc2),(.slice va3 vl3 vc3),(.slice va4 vl4 vc4),(.slice va5 vl5 vc5),(.slice va6 vl6 vc6),(.slice va7 vl7 vc7)],.agg #[.int .i64 ed.zC,.int .i64 ed.zV,.int .i64 ed.zZ,.int .i64 ed.zY,.int .i64 ed.zP.zO,.int .i64 ed.zP.zI,.int .i64 ed.zP.zA,.int .i64 ed.zP.zW,.int .i64 ed.zP.zQ],.pointer (some ⟨w.heap.size,0,none⟩),.pointer (some ⟨w.heap.size+1,0,none⟩),.bool false,.int .i64 m,.pointer (some ⟨g5,0,none⟩),.int .i64 rc,.pointer (some ⟨w3.heap.size,0,none⟩),.pointer (some ⟨g7,0,none⟩),.int .i64 rc,.int .i64 mx,.int .i64 mr,.int .i64 mr,.pointer (some ⟨g24,0,none⟩),.int .i64 rc,u16,u17,u18,u19,u20,u21,u22,u23,u24,u25,u26,u27,u28,u29,u30,u31,u32,u33,u34,u35,u36,u37,u38,u39,u40,u41,u42,u43,u44,u45,u46,u47,u48,u49,u50,u51,u52,u53,u54,u55,u56,u57,u58,u59,u60,u61,u62,u63,u64,u65,u66,u67,u68,u69,u70,u71,u72,u73,u74,u75,u76,u77,u78,u79,u80,u81,u82,u83,u84,u85,u86,undef,undef,undef,undef,undef,undef,undef,undef,undef,undef,undef,undef,undef,undef,undef,undef,undef],defers:= [] } W:=by
    intro g24 u16 u17 u18 u19 u20 u21 u22 u23 u24 u25 u26 u27 u28 u29 u30 u31 u32 u33 u34 u35 u36 u37 u38 u39 u40 u41 u42 u43 u44 u45 u46 u47 u48 u49 u50 u51 u52 u53 u54 u55 u56 u57 u58 u59 u60 u61 u62 u63 u64 u65 u66 u67 u68 u69 u70 u71 u72 u73 u74 u75 u76 u77 u78 u79 u80 u81 u82 u83 u84 u85 u86 A1r24 L1r24 C1r24 A2r24 L2r24 C2r24 A3r24 L3r24 C3r24 A4r24 L4r24 C4r24 A5r24 L5r24 C5r24 A6r24 L6r24 C6r24 A7r24 L7r24 C7r24 F24 w12 bx gl hb hO hN hL
    have O24:=hide hO;have N24:=hide hN;have L24:=hide hL;have I24:=hide (T.ows_lt _ _ _ hO);clear hO hN hL
    have gl24:w11.heap.size≤g24:=gl;have gh24:g24<w12.heap.size:=bx.lt
    refine hK24 _ _ ?_
    clear hK24 K24
    have KBg24:=hide bx;have HGg24:=hide gl;have HGBg24:=hide hb;clear bx gl
    have H12:=hide (yG H11.out H11.out.size hb);have hs12:=hb.size
    replace KS:=hide (KS.out.below hb KS.out.lt)
    replace KE:=hide (KE.out.below hb KE.out.lt)
    replace KBg5:=hide (KBg5.out.below hb KBg5.out.lt)
    replace KX:=hide (KX.out.below hb KX.out.lt)
    replace KBg7:=hide (KBg7.out.below hb KBg7.out.lt)
    replace O5:=hide (T.ows_all O5.out hb)
    replace OX:=hide (T.ows_all OX.out hb)
    replace O7:=hide (T.ows_all O7.out hb)
    clear hb
    have kcKS:=KS.out.cell;have klKS:=KS.out.lt
    have kcKE:=KE.out.cell;have klKE:=KE.out.lt
    have kcKBg5:=KBg5.out.cell;have klKBg5:=KBg5.out.lt
    have kcKX:=KX.out.cell;have klKX:=KX.out.lt
    have kcKBg7:=KBg7.out.cell;have klKBg7:=KBg7.out.lt
    have kcKBg24:=KBg24.out.cell;have klKBg24:=KBg24.out.lt
    go_wp2_with fail
    refine(b_eqCache RS _ _ _ (T.ows_rds _ _ _ O24.out) (T.ows_rds _ _ _ O5.out)).mono ?_;rintro e w13 ⟨rfl,hb⟩
    clear kcKS klKS kcKE klKE kcKBg5 klKBg5 kcKX klKX kcKBg7 klKBg7 kcKBg24 klKBg24
    have H13:=hide (yG H12.out H12.out.size hb);have hs13:=hb.size
    replace KS:=hide (KS.out.below hb KS.out.lt)
    replace KE:=hide (KE.out.below hb KE.out.lt)
    replace KBg5:=hide (KBg5.out.below hb KBg5.out.lt)
    replace KX:=hide (KX.out.below hb KX.out.lt)
    replace KBg7:=hide (KBg7.out.below hb KBg7.out.lt)
    replace KBg24:=hide (KBg24.out.below hb KBg24.out.lt)
    replace O5:=hide (T.ows_all O5.out hb)
    replace OX:=hide (T.ows_all OX.out hb)
    replace O7:=hide (T.ows_all O7.out hb)
    replace O24:=hide (T.ows_all O24.out hb)
    clear hb
    have kcKS:=KS.out.cell;have klKS:=KS.out.lt
    have kcKE:=KE.out.cell;have klKE:=KE.out.lt
    have kcKBg5:=KBg5.out.cell;have klKBg5:=KBg5.out.lt
    have kcKX:=KX.out.cell;have klKX:=KX.out.lt
    have kcKBg7:=KBg7.out.cell;have klKBg7:=KBg7.out.lt
    have kcKBg24:=KBg24.out.cell;have klKBg24:=KBg24.out.lt
    go_wp2_with fail
    refine(bo_heldCache RS _ 1 _ (by omega) (by omega) (T.ows_rds _ _ _ O7.out)).mono ?_;rintro e w14 ⟨rfl,hb⟩;rw[Emr.out]
    clear kcKS klKS kcKE klKE kcKBg5 klKBg5 kcKX klKX kcKBg7 klKBg7 kcKBg24 klKBg24
    have H14:=hide (yG H13.out H13.out.size hb);have hs14:=hb.size
    replace KS:=hide (KS.out.below hb KS.out.lt)
    replace KE:=hide (KE.out.below hb KE.out.lt)
    replace KBg5:=hide (KBg5.out.below hb KBg5.out.lt)
    replace KX:=hide (KX.out.below hb KX.out.lt)
    replace KBg7:=hide (KBg7.out.below hb KBg7.out.lt)
    replace KBg24:=hide (KBg24.out.below hb KBg24.out.lt)
    replace O5:=hide (T.ows_all O5.out hb)
    replace OX:=hide (T.ows_all OX.out hb)
    replace O7:=hide (T.ows_all O7.out hb)
    replace O24:=hide (T.ows_all O24.out hb)
    clear hb
    have kcKS:=KS.out.cell;have klKS:=KS.out.lt
    have kcKE:=KE.out.cell;have klKE:=KE.out.lt
    have kcKBg5:=KBg5.out.cell;have klKBg5:=KBg5.out.lt
    have kcKX:=KX.out.cell;have klKX:=KX.out.lt
    have kcKBg7:=KBg7.out.cell;have klKBg7:=KBg7.out.lt
    have kcKBg24:=KBg24.out.cell;have klKBg24:=KBg24.out.lt
    go_wp2
    go_ret
    exact⟨rfl,H14.out⟩
   have ltKS24:=KS.out.lt
   have ltKE24:=KE.out.lt
   go_region_held3 (fun w'=>(∀ i,w'.cell? ⟨w.heap.size,i,none⟩= #[.int .i64 x.zB.zA,(.slice va1 vl1 vc1),(.slice va2 vl2 vc2),(.slice va3 vl3 vc3),(.slice va4 vl4 vc4),(.slice va5 vl5 vc5),(.slice va6 vl6 vc6),(.slice va7 vl7 vc7)][i]?)∧(∀ i,w'.cell? ⟨(w.heap.size+1),i,none⟩= #[.int .i64 ed.zC,.int .i64 ed.zV,.int .i64 ed.zZ,.int .i64 ed.zY,.int .i64 ed.zP.zO,.int .i64 ed.zP.zI,.int .i64 ed.zP.zA,.int .i64 ed.zP.zW,.int .i64 ed.zP.zQ][i]?)) ((((try simp only[World.cell?_drew]));first|with_reducible exact⟨KS.out.cell,KE.out.cell⟩|with_reducible exact⟨(KS.out.alloc _).cell,(KE.out.alloc _).cell⟩|with_reducible exact⟨KS24_0.out.cell,KE24_0.out.cell⟩|with_reducible exact⟨(KS24_0.out.alloc _).cell,(KE24_0.out.alloc _).cell⟩|with_reducible exact⟨KS24_1.out.cell,KE24_1.out.cell⟩|with_reducible exact⟨(KS24_1.out.alloc _).cell,(KE24_1.out.alloc _).cell⟩|with_reducible exact⟨KS24_2.out.cell,KE24_2.out.cell⟩|with_reducible exact⟨(KS24_2.out.alloc _).cell,(KE24_2.out.alloc _).cell⟩|with_reducible exact⟨(Bk.far (Bk.far (Bk.far (Bk.far (Bk.far (Bk.far (Bk.far (Bk.far KS24_2.out (p:=⟨w11.heap.size,0,none⟩) (Nat.ne_of_lt (by with_reducible assumption)) (.int .i64 RS.zB.zA)) (p:=⟨w11.heap.size,1,none⟩) (Nat.ne_of_lt (by with_reducible assumption)) (.slice A1r24 L1r24 C1r24)) (p:=⟨w11.heap.size,2,none⟩) (Nat.ne_of_lt (by with_reducible assumption)) (.slice A2r24 L2r24 C2r24)) (p:=⟨w11.heap.size,3,none⟩) (Nat.ne_of_lt (by with_reducible assumption)) (.slice A3r24 L3r24 C3r24)) (p:=⟨w11.heap.size,4,none⟩) (Nat.ne_of_lt (by with_reducible assumption)) (.slice A4r24 L4r24 C4r24)) (p:=⟨w11.heap.size,5,none⟩) (Nat.ne_of_lt (by with_reducible assumption)) (.slice A5r24 L5r24 C5r24)) (p:=⟨w11.heap.size,6,none⟩) (Nat.ne_of_lt (by with_reducible assumption)) (.slice A6r24 L6r24 C6r24)) (p:=⟨w11.heap.size,7,none⟩) (Nat.ne_of_lt (by with_reducible assumption)) (.slice A7r24 L7r24 C7r24)).cell,(Bk.far (Bk.far (Bk.far (Bk.far (Bk.far (Bk.far (Bk.far (Bk.far KE24_2.out (p:=⟨w11.heap.size,0,none⟩) (Nat.ne_of_lt (by with_reducible assumption)) (.int .i64 RS.zB.zA)) (p:=⟨w11.heap.size,1,none⟩) (Nat.ne_of_lt (by with_reducible assumption)) (.slice A1r24 L1r24 C1r24)) (p:=⟨w11.heap.size,2,none⟩) (Nat.ne_of_lt (by with_reducible assumption)) (.slice A2r24 L2r24 C2r24)) (p:=⟨w11.heap.size,3,none⟩) (Nat.ne_of_lt (by with_reducible assumption)) (.slice A3r24 L3r24 C3r24)) (p:=⟨w11.heap.size,4,none⟩) (Nat.ne_of_lt (by with_reducible assumption)) (.slice A4r24 L4r24 C4r24)) (p:=⟨w11.heap.size,5,none⟩) (Nat.ne_of_lt (by with_reducible assumption)) (.slice A5r24 L5r24 C5r24)) (p:=⟨w11.heap.size,6,none⟩) (Nat.ne_of_lt (by with_reducible assumption)) (.slice A6r24 L6r24 C6r24)) (p:=⟨w11.heap.size,7,none⟩) (Nat.ne_of_lt (by with_reducible assumption)) (.slice A7r24 L7r24 C7r24)).cell⟩|with_reducible exact⟨(Bk.far (Bk.far (Bk.far (Bk.far (Bk.far (Bk.far (Bk.far (Bk.far KS24_2.out (p:=⟨wA24.heap.size,0,none⟩) (Nat.ne_of_lt (by with_reducible assumption)) (.int .i64 RS.zB.zA)) (p:=⟨wA24.heap.size,1,none⟩) (Nat.ne_of_lt (by with_reducible assumption)) (.slice A1r24 L1r24 C1r24)) (p:=⟨wA24.heap.size,2,none⟩) (Nat.ne_of_lt (by with_reducible assumption)) (.slice A2r24 L2r24 C2r24)) (p:=⟨wA24.heap.size,3,none⟩) (Nat.ne_of_lt (by with_reducible assumption)) (.slice A3r24 L3r24 C3r24)) (p:=⟨wA24.heap.size,4,none⟩) (Nat.ne_of_lt (by with_reducible assumption)) (.slice A4r24 L4r24 C4r24)) (p:=⟨wA24.heap.size,5,none⟩) (Nat.ne_of_lt (by with_reducible assumption)) (.slice A5r24 L5r24 C5r24)) (p:=⟨wA24.heap.size,6,none⟩) (Nat.ne_of_lt (by with_reducible assumption)) (.slice A6r24 L6r24 C6r24)) (p:=⟨wA24.heap.size,7,none⟩) (Nat.ne_of_lt (by with_reducible assumption)) (.slice A7r24 L7r24 C7r24)).cell,(Bk.far (Bk.far (Bk.far (Bk.far (Bk.far (Bk.far (Bk.far (Bk.far KE24_2.out (p:=⟨wA24.heap.size,0,none⟩) (Nat.ne_of_lt (by with_reducible assumption)) (.int .i64 RS.zB.zA)) (p:=⟨wA24.heap.size,1,none⟩) (Nat.ne_of_lt (by with_reducible assumption)) (.slice A1r24 L1r24 C1r24)) (p:=⟨wA24.heap.size,2,none⟩) (Nat.ne_of_lt (by with_reducible assumption)) (.slice A2r24 L2r24 C2r24)) (p:=⟨wA24.heap.size,3,none⟩) (Nat.ne_of_lt (by with_reducible assumption)) (.slice A3r24 L3r24 C3r24)) (p:=⟨wA24.heap.size,4,none⟩) (Nat.ne_of_lt (by with_reducible assumption)) (.slice A4r24 L4r24 C4r24)) (p:=⟨wA24.heap.size,5,none⟩) (Nat.ne_of_lt (by with_reducible assumption)) (.slice A5r24 L5r24 C5r24)) (p:=⟨wA24.heap.size,6,none⟩) (Nat.ne_of_lt (by with_reducible assumption)) (.slice A6r24 L6r24 C6r24)) (p:=⟨wA24.heap.size,7,none⟩) (Nat.ne_of_lt (by with_reducible assumption)) (.slice A7r24 L7r24 C7r24)).cell⟩|with_reducible exact⟨(Bk.far (Bk.far (Bk.far (Bk.far (Bk.far (Bk.far (Bk.far (Bk.far KS24_2.out (p:=⟨wB24.heap.size,0,none⟩) (Nat.ne_of_lt (by with_reducible assumption)) (.int .i64 RS.zB.zA)) (p:=⟨wB24.heap.size,1,none⟩) (Nat.ne_of_lt (by with_reducible assumption)) (.slice A1r24 L1r24 C1r24)) (p:=⟨wB24.heap.size,2,none⟩) (Nat.ne_of_lt (by with_reducible assumption)) (.slice A2r24 L2r24 C2r24)) (p:=⟨wB24.heap.size,3,none⟩) (Nat.ne_of_lt (by with_reducible assumption)) (.slice A3r24 L3r24 C3r24)) (p:=⟨wB24.heap.size,4,none⟩) (Nat.ne_of_lt (by with_reducible assumption)) (.slice A4r24 L4r24 C4r24)) (p:=⟨wB24.heap.size,5,none⟩) (Nat.ne_of_lt (by with_reducible assumption)) (.slice A5r24 L5r24 C5r24)) (p:=⟨wB24.heap.size,6,none⟩) (Nat.ne_of_lt (by with_reducible assumption)) (.slice A6r24 L6r24 C6r24)) (p:=⟨wB24.heap.size,7,none⟩) (Nat.ne_of_lt (by with_reducible assumption)) (.slice A7r24 L7r24 C7r24)).cell,(Bk.far (Bk.far (Bk.far (Bk.far (Bk.far (Bk.far (Bk.far (Bk.far KE24_2.out (p:=⟨wB24.heap.size,0,none⟩) (Nat.ne_of_lt (by with_reducible assumption)) (.int .i64 RS.zB.zA)) (p:=⟨wB24.heap.size,1,none⟩) (Nat.ne_of_lt (by with_reducible assumption)) (.slice A1r24 L1r24 C1r24)) (p:=⟨wB24.heap.size,2,none⟩) (Nat.ne_of_lt (by with_reducible assumption)) (.slice A2r24 L2r24 C2r24)) (p:=⟨wB24.heap.size,3,none⟩) (Nat.ne_of_lt (by with_reducible assumption)) (.slice A3r24 L3r24 C3r24)) (p:=⟨wB24.heap.size,4,none⟩) (Nat.ne_of_lt (by with_reducible assumption)) (.slice A4r24 L4r24 C4r24)) (p:=⟨wB24.heap.size,5,none⟩) (Nat.ne_of_lt (by with_reducible assumption)) (.slice A5r24 L5r24 C5r24)) (p:=⟨wB24.heap.size,6,none⟩) (Nat.ne_of_lt (by with_reducible assumption)) (.slice A6r24 L6r24 C6r24)) (p:=⟨wB24.heap.size,7,none⟩) (Nat.ne_of_lt (by with_reducible assumption)) (.slice A7r24 L7r24 C7r24)).cell⟩|(trace_state;fail))) (first|(go_at_call 8;refine(b_toCache x _ _ sx (T.rds_below HX.out (by first|with_reducible exact H11.out|with_reducible exact H11.out.drew|with_reducible exact(below_drewN H11.out _)|with_reducible exact(H11.out.alloc (H11.out.size) _)|with_reducible exact(H11.out.alloc (H11.out.size) _).drew|with_reducible exact((H11.out.drew).alloc (H11.out.size) _)|with_reducible exact(below_drewN (H11.out.alloc (H11.out.size) _) _)|with_reducible exact((below_drewN H11.out _).alloc (H11.out.size) _)))).mono ?_;rintro e wA24 ⟨ds,rfl,hds,hb⟩;have E24_0:=hide (show Below w11.heap.size w11 wA24 from(by first|with_reducible exact hb|with_reducible exact undrew hb|with_reducible exact undrewN hb|with_reducible exact yJ hb|with_reducible exact undrew (yJ hb)|with_reducible exact yJ (undrew hb)|with_reducible exact undrewN (yJ hb)|with_reducible exact yJ (undrewN hb)));have D24_0:=hide (show Below w11.heap.size w11 wA24 from E24_0.out);have KS24_0:=hide (KS.out.below D24_0.out KS.out.lt);have KE24_0:=hide (KE.out.below D24_0.out KE.out.lt);(try (have G24_0_0:=hide (show Bk wA24 w11.heap.size 43 #[.int .i64 0,.slice none 0 0,.slice none 0 0,.slice none 0 0,.slice none 0 0,.slice none 0 0,.slice none 0 0,.slice none 0 0] from by first|exact Bk.below (Bk.born _ _ _) hb (by simp)|exact Bk.below (Bk.drew (Bk.born _ _ _)) hb (by simp))));have ltKS24_0:=KS24_0.out.lt;have ltKE24_0:=KE24_0.out.lt;clear hb)|(go_at_call 20;refine(c_toEdit ed _).mono ?_;rintro e wB24 ⟨rfl,hb⟩;have E24_1:=hide (show Below wA24.heap.size wA24 wB24 from(by first|with_reducible exact hb|with_reducible exact undrew hb|with_reducible exact undrewN hb|with_reducible exact yJ hb|with_reducible exact undrew (yJ hb)|with_reducible exact yJ (undrew hb)|with_reducible exact undrewN (yJ hb)|with_reducible exact yJ (undrewN hb)));have D24_1:=hide (show Below w11.heap.size w11 wB24 from yG D24_0.out D24_0.out.size E24_1.out);have KS24_1:=hide (KS.out.below D24_1.out KS.out.lt);have KE24_1:=hide (KE.out.below D24_1.out KE.out.lt);(try (have G24_1_1:=hide (show Bk wB24 wA24.heap.size 43 #[.int .i64 0,.slice none 0 0,.slice none 0 0,.slice none 0 0,.slice none 0 0,.slice none 0 0,.slice none 0 0,.slice none 0 0] from by first|exact Bk.below (Bk.born _ _ _) hb (by simp)|exact Bk.below (Bk.drew (Bk.born _ _ _)) hb (by simp))));(try (have G24_0_1:=hide (G24_0_0.out.below E24_1.out G24_0_0.out.lt)));have ltKS24_1:=KS24_1.out.lt;have ltKE24_1:=KE24_1.out.lt;clear hb)|(go_at_call 21;refine(II.out _ _ (T.rds_below hds (by first|with_reducible exact E24_1.out|with_reducible exact E24_1.out.drew|with_reducible exact(below_drewN E24_1.out _)|with_reducible exact(E24_1.out.alloc (E24_1.out.size) _)|with_reducible exact(E24_1.out.alloc (E24_1.out.size) _).drew|with_reducible exact((E24_1.out.drew).alloc (E24_1.out.size) _)|with_reducible exact(below_drewN (E24_1.out.alloc (E24_1.out.size) _) _)|with_reducible exact((below_drewN E24_1.out _).alloc (E24_1.out.size) _)))).mono ?_;rintro e wC24 ⟨v1,v2,v3,v4,v5,v6,v7,F24,rfl,hN⟩;have hb:=hN.below;obtain⟨⟨A1r24,L1r24,C1r24,rfl⟩,⟨A2r24,L2r24,C2r24,rfl⟩,⟨A3r24,L3r24,C3r24,rfl⟩,⟨A4r24,L4r24,C4r24,rfl⟩,⟨A5r24,L5r24,C5r24,rfl⟩,⟨A6r24,L6r24,C6r24,rfl⟩,⟨A7r24,L7r24,C7r24,rfl⟩⟩:=GCache.sl7 (T.ows_rds _ _ _ hN.ows);have HNW:=hide hN;clear hN;have E24_2:=hide (show Below wB24.heap.size wB24 wC24 from(by first|with_reducible exact hb|with_reducible exact undrew hb|with_reducible exact undrewN hb|with_reducible exact yJ hb|with_reducible exact undrew (yJ hb)|with_reducible exact yJ (undrew hb)|with_reducible exact undrewN (yJ hb)|with_reducible exact yJ (undrewN hb)));have D24_2:=hide (show Below w11.heap.size w11 wC24 from yG D24_1.out D24_1.out.size E24_2.out);have KS24_2:=hide (KS.out.below D24_2.out KS.out.lt);have KE24_2:=hide (KE.out.below D24_2.out KE.out.lt);(try (have G24_2_2:=hide (show Bk wC24 wB24.heap.size 43 #[.int .i64 0,.slice none 0 0,.slice none 0 0,.slice none 0 0,.slice none 0 0,.slice none 0 0,.slice none 0 0,.slice none 0 0] from by first|exact Bk.below (Bk.born _ _ _) hb (by simp)|exact Bk.below (Bk.drew (Bk.born _ _ _)) hb (by simp))));(try (have G24_0_2:=hide (G24_0_1.out.below E24_2.out G24_0_1.out.lt)));(try (have G24_1_2:=hide (G24_1_1.out.below E24_2.out G24_1_1.out.lt)));have ltKS24_2:=KS24_2.out.lt;have ltKE24_2:=KE24_2.out.lt;(try (have gc:=G24_0_2.out.cell;have gf:=G24_0_2.out.free;have gll:=G24_0_2.out.lt));(try (have gc:=G24_1_2.out.cell;have gf:=G24_1_2.out.free;have gll:=G24_1_2.out.lt));(try (have gc:=G24_2_2.out.cell;have gf:=G24_2_2.out.free;have gll:=G24_2_2.out.lt));clear hb))
   ·
    have hlo:=HNW.out.lo;have hlt:=HNW.out.lt;have hz0:=D24_1.out.size
    exact REST24 wC24.heap.size _ _ _ _ _ _ _ _ _ _ _ _ _ _ _ _ _ _ _ _ _ _ _ _ _ _ _ _ _ _ _ _ _ _ _ _ _ _ _ _ _ _ _ _ _ _ _ _ _ _ _ _ _ _ _ _ _ _ _ _ _ _ _ _ _ _ _ _ _ _ _ _ _ _ _ _ _ _ _ _ _ _ _ _ _ _ _ _ _ _ _ _ _ _ (Bk.born _ _ _) D24_2.out.size (D24_2.out.alloc D24_2.out.size _) (T.ows_all HNW.out.ows ((Below.refl _ _).alloc (Nat.le_refl _) _)) HNW.out.nodup (fun b hb=>by have h1:=hlo b hb;have h2:=hlt b hb;exact⟨by omega,by omega⟩)
   ·
    have hgl:w11.heap.size≤wB24.heap.size:=D24_1.out.size
    have hlo:=HNW.out.lo
    have hz0:=D24_1.out.size
    have hlg:wB24.heap.size<(wB24.alloc (.cells #[.int .i64 0,.slice none 0 0,.slice none 0 0,.slice none 0 0,.slice none 0 0,.slice none 0 0,.slice none 0 0,.slice none 0 0] 43)).heap.size:=by simp
    have hgn:wB24.heap.size ∉ F24:=fun hm=>by have h1:=hlo _ hm;omega
    exact REST24 (wB24.heap.size) _ _ _ _ _ _ _ _ _ _ _ _ _ _ _ _ _ _ _ _ _ _ _ _ _ _ _ _ _ _ _ _ _ _ _ _ _ _ _ _ _ _ _ _ _ _ _ _ _ _ _ _ _ _ _ _ _ _ _ _ _ _ _ _ _ _ _ _ _ _ _ _ _ _ _ _ _ _ _ _ _ _ _ _ _ _ _ _ _ _ _ _ _ _ (by have:=(Bk.set_ (Bk.set_ (Bk.set_ (Bk.set_ (Bk.set_ (Bk.set_ (Bk.set_ (Bk.set_ G24_2_2.out 0 (.int .i64 RS.zB.zA)) 1 (.slice A1r24 L1r24 C1r24)) 2 (.slice A2r24 L2r24 C2r24)) 3 (.slice A3r24 L3r24 C3r24)) 4 (.slice A4r24 L4r24 C4r24)) 5 (.slice A5r24 L5r24 C5r24)) 6 (.slice A6r24 L6r24 C6r24)) 7 (.slice A7r24 L7r24 C7r24));simpa using this) hgl (Below.setCell (p:=⟨wB24.heap.size,7,none⟩) (Below.setCell (p:=⟨wB24.heap.size,6,none⟩) (Below.setCell (p:=⟨wB24.heap.size,5,none⟩) (Below.setCell (p:=⟨wB24.heap.size,4,none⟩) (Below.setCell (p:=⟨wB24.heap.size,3,none⟩) (Below.setCell (p:=⟨wB24.heap.size,2,none⟩) (Below.setCell (p:=⟨wB24.heap.size,1,none⟩) (Below.setCell (p:=⟨wB24.heap.size,0,none⟩) D24_2.out hgl (.int .i64 RS.zB.zA)) hgl (.slice A1r24 L1r24 C1r24)) hgl (.slice A2r24 L2r24 C2r24)) hgl (.slice A3r24 L3r24 C3r24)) hgl (.slice A4r24 L4r24 C4r24)) hgl (.slice A5r24 L5r24 C5r24)) hgl (.slice A6r24 L6r24 C6r24)) hgl (.slice A7r24 L7r24 C7r24)) (T.yM (T.yM (T.yM (T.yM (T.yM (T.yM (T.yM (T.yM HNW.out.ows hgn 0 (.int .i64 RS.zB.zA)) hgn 1 (.slice A1r24 L1r24 C1r24)) hgn 2 (.slice A2r24 L2r24 C2r24)) hgn 3 (.slice A3r24 L3r24 C3r24)) hgn 4 (.slice A4r24 L4r24 C4r24)) hgn 5 (.slice A5r24 L5r24 C5r24)) hgn 6 (.slice A6r24 L6r24 C6r24)) hgn 7 (.slice A7r24 L7r24 C7r24)) HNW.out.nodup (fun b hb=>by have h1:=hlo b hb;exact⟨by omega,by omega⟩)
   ·
    have hgl:w11.heap.size≤wA24.heap.size:=D24_0.out.size
    have hlo:=HNW.out.lo
    have hz0:=D24_1.out.size
    have hlg:wA24.heap.size<wB24.heap.size:=G24_1_1.out.lt
    have hgn:wA24.heap.size ∉ F24:=fun hm=>by have h1:=hlo _ hm;omega
    exact REST24 (wA24.heap.size) _ _ _ _ _ _ _ _ _ _ _ _ _ _ _ _ _ _ _ _ _ _ _ _ _ _ _ _ _ _ _ _ _ _ _ _ _ _ _ _ _ _ _ _ _ _ _ _ _ _ _ _ _ _ _ _ _ _ _ _ _ _ _ _ _ _ _ _ _ _ _ _ _ _ _ _ _ _ _ _ _ _ _ _ _ _ _ _ _ _ _ _ _ _ (by have:=(Bk.set_ (Bk.set_ (Bk.set_ (Bk.set_ (Bk.set_ (Bk.set_ (Bk.set_ (Bk.set_ G24_1_2.out 0 (.int .i64 RS.zB.zA)) 1 (.slice A1r24 L1r24 C1r24)) 2 (.slice A2r24 L2r24 C2r24)) 3 (.slice A3r24 L3r24 C3r24)) 4 (.slice A4r24 L4r24 C4r24)) 5 (.slice A5r24 L5r24 C5r24)) 6 (.slice A6r24 L6r24 C6r24)) 7 (.slice A7r24 L7r24 C7r24));simpa using this) hgl (Below.setCell (p:=⟨wA24.heap.size,7,none⟩) (Below.setCell (p:=⟨wA24.heap.size,6,none⟩) (Below.setCell (p:=⟨wA24.heap.size,5,none⟩) (Below.setCell (p:=⟨wA24.heap.size,4,none⟩) (Below.setCell (p:=⟨wA24.heap.size,3,none⟩) (Below.setCell (p:=⟨wA24.heap.size,2,none⟩) (Below.setCell (p:=⟨wA24.heap.size,1,none⟩) (Below.setCell (p:=⟨wA24.heap.size,0,none⟩) D24_2.out hgl (.int .i64 RS.zB.zA)) hgl (.slice A1r24 L1r24 C1r24)) hgl (.slice A2r24 L2r24 C2r24)) hgl (.slice A3r24 L3r24 C3r24)) hgl (.slice A4r24 L4r24 C4r24)) hgl (.slice A5r24 L5r24 C5r24)) hgl (.slice A6r24 L6r24 C6r24)) hgl (.slice A7r24 L7r24 C7r24)) (T.yM (T.yM (T.yM (T.yM (T.yM (T.yM (T.yM (T.yM HNW.out.ows hgn 0 (.int .i64 RS.zB.zA)) hgn 1 (.slice A1r24 L1r24 C1r24)) hgn 2 (.slice A2r24 L2r24 C2r24)) hgn 3 (.slice A3r24 L3r24 C3r24)) hgn 4 (.slice A4r24 L4r24 C4r24)) hgn 5 (.slice A5r24 L5r24 C5r24)) hgn 6 (.slice A6r24 L6r24 C6r24)) hgn 7 (.slice A7r24 L7r24 C7r24)) HNW.out.nodup (fun b hb=>by have h1:=hlo b hb;exact⟨by omega,by omega⟩)
   ·
    have hgl:w11.heap.size≤w11.heap.size:=Nat.le_refl _
    have hlo:=HNW.out.lo
    have hz0:=D24_1.out.size
    have hlg:w11.heap.size<wB24.heap.size:=G24_0_1.out.lt
    have hgn:w11.heap.size ∉ F24:=fun hm=>by have h1:=hlo _ hm;omega
    exact REST24 (w11.heap.size) _ _ _ _ _ _ _ _ _ _ _ _ _ _ _ _ _ _ _ _ _ _ _ _ _ _ _ _ _ _ _ _ _ _ _ _ _ _ _ _ _ _ _ _ _ _ _ _ _ _ _ _ _ _ _ _ _ _ _ _ _ _ _ _ _ _ _ _ _ _ _ _ _ _ _ _ _ _ _ _ _ _ _ _ _ _ _ _ _ _ _ _ _ _ (by have:=(Bk.set_ (Bk.set_ (Bk.set_ (Bk.set_ (Bk.set_ (Bk.set_ (Bk.set_ (Bk.set_ G24_0_2.out 0 (.int .i64 RS.zB.zA)) 1 (.slice A1r24 L1r24 C1r24)) 2 (.slice A2r24 L2r24 C2r24)) 3 (.slice A3r24 L3r24 C3r24)) 4 (.slice A4r24 L4r24 C4r24)) 5 (.slice A5r24 L5r24 C5r24)) 6 (.slice A6r24 L6r24 C6r24)) 7 (.slice A7r24 L7r24 C7r24));simpa using this) hgl (Below.setCell (p:=⟨w11.heap.size,7,none⟩) (Below.setCell (p:=⟨w11.heap.size,6,none⟩) (Below.setCell (p:=⟨w11.heap.size,5,none⟩) (Below.setCell (p:=⟨w11.heap.size,4,none⟩) (Below.setCell (p:=⟨w11.heap.size,3,none⟩) (Below.setCell (p:=⟨w11.heap.size,2,none⟩) (Below.setCell (p:=⟨w11.heap.size,1,none⟩) (Below.setCell (p:=⟨w11.heap.size,0,none⟩) D24_2.out hgl (.int .i64 RS.zB.zA)) hgl (.slice A1r24 L1r24 C1r24)) hgl (.slice A2r24 L2r24 C2r24)) hgl (.slice A3r24 L3r24 C3r24)) hgl (.slice A4r24 L4r24 C4r24)) hgl (.slice A5r24 L5r24 C5r24)) hgl (.slice A6r24 L6r24 C6r24)) hgl (.slice A7r24 L7r24 C7r24)) (T.yM (T.yM (T.yM (T.yM (T.yM (T.yM (T.yM (T.yM HNW.out.ows hgn 0 (.int .i64 RS.zB.zA)) hgn 1 (.slice A1r24 L1r24 C1r24)) hgn 2 (.slice A2r24 L2r24 C2r24)) hgn 3 (.slice A3r24 L3r24 C3r24)) hgn 4 (.slice A4r24 L4r24 C4r24)) hgn 5 (.slice A5r24 L5r24 C5r24)) hgn 6 (.slice A6r24 L6r24 C6r24)) hgn 7 (.slice A7r24 L7r24 C7r24)) HNW.out.nodup (fun b hb=>by have h1:=hlo b hb;exact⟨by omega,by omega⟩)
  have ltKX7:=KX.out.lt
  have ltKE7:=KE.out.lt
  go_region_held3 (fun w'=>(∀ i,w'.cell? ⟨w3.heap.size,i,none⟩= #[.int .i64 x.zB.zA,(.slice ta1 tl1 tc1),(.slice ta2 tl2 tc2),(.slice ta3 tl3 tc3),(.slice ta4 tl4 tc4),(.slice ta5 tl5 tc5),(.slice ta6 tl6 tc6),(.slice ta7 tl7 tc7)][i]?)∧(∀ i,w'.cell? ⟨(w.heap.size+1),i,none⟩= #[.int .i64 ed.zC,.int .i64 ed.zV,.int .i64 ed.zZ,.int .i64 ed.zY,.int .i64 ed.zP.zO,.int .i64 ed.zP.zI,.int .i64 ed.zP.zA,.int .i64 ed.zP.zW,.int .i64 ed.zP.zQ][i]?)) ((((try simp only[World.cell?_drew]));first|with_reducible exact⟨KX.out.cell,KE.out.cell⟩|with_reducible exact⟨(KX.out.alloc _).cell,(KE.out.alloc _).cell⟩|with_reducible exact⟨KX7_0.out.cell,KE7_0.out.cell⟩|with_reducible exact⟨(KX7_0.out.alloc _).cell,(KE7_0.out.alloc _).cell⟩|with_reducible exact⟨KX7_1.out.cell,KE7_1.out.cell⟩|with_reducible exact⟨(KX7_1.out.alloc _).cell,(KE7_1.out.alloc _).cell⟩|with_reducible exact⟨(Bk.far (Bk.far (Bk.far (Bk.far (Bk.far (Bk.far (Bk.far (Bk.far KX7_1.out (p:=⟨w4.heap.size,0,none⟩) (Nat.ne_of_lt (by with_reducible assumption)) (.int .i64 RS.zB.zA)) (p:=⟨w4.heap.size,1,none⟩) (Nat.ne_of_lt (by with_reducible assumption)) (.slice A1r7 L1r7 C1r7)) (p:=⟨w4.heap.size,2,none⟩) (Nat.ne_of_lt (by with_reducible assumption)) (.slice A2r7 L2r7 C2r7)) (p:=⟨w4.heap.size,3,none⟩) (Nat.ne_of_lt (by with_reducible assumption)) (.slice A3r7 L3r7 C3r7)) (p:=⟨w4.heap.size,4,none⟩) (Nat.ne_of_lt (by with_reducible assumption)) (.slice A4r7 L4r7 C4r7)) (p:=⟨w4.heap.size,5,none⟩) (Nat.ne_of_lt (by with_reducible assumption)) (.slice A5r7 L5r7 C5r7)) (p:=⟨w4.heap.size,6,none⟩) (Nat.ne_of_lt (by with_reducible assumption)) (.slice A6r7 L6r7 C6r7)) (p:=⟨w4.heap.size,7,none⟩) (Nat.ne_of_lt (by with_reducible assumption)) (.slice A7r7 L7r7 C7r7)).cell,(Bk.far (Bk.far (Bk.far (Bk.far (Bk.far (Bk.far (Bk.far (Bk.far KE7_1.out (p:=⟨w4.heap.size,0,none⟩) (Nat.ne_of_lt (by with_reducible assumption)) (.int .i64 RS.zB.zA)) (p:=⟨w4.heap.size,1,none⟩) (Nat.ne_of_lt (by with_reducible assumption)) (.slice A1r7 L1r7 C1r7)) (p:=⟨w4.heap.size,2,none⟩) (Nat.ne_of_lt (by with_reducible assumption)) (.slice A2r7 L2r7 C2r7)) (p:=⟨w4.heap.size,3,none⟩) (Nat.ne_of_lt (by with_reducible assumption)) (.slice A3r7 L3r7 C3r7)) (p:=⟨w4.heap.size,4,none⟩) (Nat.ne_of_lt (by with_reducible assumption)) (.slice A4r7 L4r7 C4r7)) (p:=⟨w4.heap.size,5,none⟩) (Nat.ne_of_lt (by with_reducible assumption)) (.slice A5r7 L5r7 C5r7)) (p:=⟨w4.heap.size,6,none⟩) (Nat.ne_of_lt (by with_reducible assumption)) (.slice A6r7 L6r7 C6r7)) (p:=⟨w4.heap.size,7,none⟩) (Nat.ne_of_lt (by with_reducible assumption)) (.slice A7r7 L7r7 C7r7)).cell⟩|with_reducible exact⟨(Bk.far (Bk.far (Bk.far (Bk.far (Bk.far (Bk.far (Bk.far (Bk.far KX7_1.out (p:=⟨wA7.heap.size,0,none⟩) (Nat.ne_of_lt (by with_reducible assumption)) (.int .i64 RS.zB.zA)) (p:=⟨wA7.heap.size,1,none⟩) (Nat.ne_of_lt (by with_reducible assumption)) (.slice A1r7 L1r7 C1r7)) (p:=⟨wA7.heap.size,2,none⟩) (Nat.ne_of_lt (by with_reducible assumption)) (.slice A2r7 L2r7 C2r7)) (p:=⟨wA7.heap.size,3,none⟩) (Nat.ne_of_lt (by with_reducible assumption)) (.slice A3r7 L3r7 C3r7)) (p:=⟨wA7.heap.size,4,none⟩) (Nat.ne_of_lt (by with_reducible assumption)) (.slice A4r7 L4r7 C4r7)) (p:=⟨wA7.heap.size,5,none⟩) (Nat.ne_of_lt (by with_reducible assumption)) (.slice A5r7 L5r7 C5r7)) (p:=⟨wA7.heap.size,6,none⟩) (Nat.ne_of_lt (by with_reducible assumption)) (.slice A6r7 L6r7 C6r7)) (p:=⟨wA7.heap.size,7,none⟩) (Nat.ne_of_lt (by with_reducible assumption)) (.slice A7r7 L7r7 C7r7)).cell,(Bk.far (Bk.far (Bk.far (Bk.far (Bk.far (Bk.far (Bk.far (Bk.far KE7_1.out (p:=⟨wA7.heap.size,0,none⟩) (Nat.ne_of_lt (by with_reducible assumption)) (.int .i64 RS.zB.zA)) (p:=⟨wA7.heap.size,1,none⟩) (Nat.ne_of_lt (by with_reducible assumption)) (.slice A1r7 L1r7 C1r7)) (p:=⟨wA7.heap.size,2,none⟩) (Nat.ne_of_lt (by with_reducible assumption)) (.slice A2r7 L2r7 C2r7)) (p:=⟨wA7.heap.size,3,none⟩) (Nat.ne_of_lt (by with_reducible assumption)) (.slice A3r7 L3r7 C3r7)) (p:=⟨wA7.heap.size,4,none⟩) (Nat.ne_of_lt (by with_reducible assumption)) (.slice A4r7 L4r7 C4r7)) (p:=⟨wA7.heap.size,5,none⟩) (Nat.ne_of_lt (by with_reducible assumption)) (.slice A5r7 L5r7 C5r7)) (p:=⟨wA7.heap.size,6,none⟩) (Nat.ne_of_lt (by with_reducible assumption)) (.slice A6r7 L6r7 C6r7)) (p:=⟨wA7.heap.size,7,none⟩) (Nat.ne_of_lt (by with_reducible assumption)) (.slice A7r7 L7r7 C7r7)).cell⟩|(trace_state;fail))) (first|(go_at_call 20;refine(c_toEdit ed _).mono ?_;rintro e wA7 ⟨rfl,hb⟩;have E7_0:=hide (show Below w4.heap.size w4 wA7 from(by first|with_reducible exact hb|with_reducible exact undrew hb|with_reducible exact undrewN hb|with_reducible exact yJ hb|with_reducible exact undrew (yJ hb)|with_reducible exact yJ (undrew hb)|with_reducible exact undrewN (yJ hb)|with_reducible exact yJ (undrewN hb)));have D7_0:=hide (show Below w4.heap.size w4 wA7 from E7_0.out);have KX7_0:=hide (KX.out.below D7_0.out KX.out.lt);have KE7_0:=hide (KE.out.below D7_0.out KE.out.lt);(try (have G7_0_0:=hide (show Bk wA7 w4.heap.size 43 #[.int .i64 0,.slice none 0 0,.slice none 0 0,.slice none 0 0,.slice none 0 0,.slice none 0 0,.slice none 0 0,.slice none 0 0] from by first|exact Bk.below (Bk.born _ _ _) hb (by simp)|exact Bk.below (Bk.drew (Bk.born _ _ _)) hb (by simp))));have ltKX7_0:=KX7_0.out.lt;have ltKE7_0:=KE7_0.out.lt;clear hb)|(go_at_call 21;refine(II.out _ _ (T.rds_below (T.ows_rds _ _ _ OX.out) (by first|with_reducible exact D7_0.out|with_reducible exact D7_0.out.drew|with_reducible exact(below_drewN D7_0.out _)|with_reducible exact(D7_0.out.alloc (D7_0.out.size) _)|with_reducible exact(D7_0.out.alloc (D7_0.out.size) _).drew|with_reducible exact((D7_0.out.drew).alloc (D7_0.out.size) _)|with_reducible exact(below_drewN (D7_0.out.alloc (D7_0.out.size) _) _)|with_reducible exact((below_drewN D7_0.out _).alloc (D7_0.out.size) _)))).mono ?_;rintro e wB7 ⟨v1,v2,v3,v4,v5,v6,v7,F7,rfl,hN⟩;have hb:=hN.below;obtain⟨⟨A1r7,L1r7,C1r7,rfl⟩,⟨A2r7,L2r7,C2r7,rfl⟩,⟨A3r7,L3r7,C3r7,rfl⟩,⟨A4r7,L4r7,C4r7,rfl⟩,⟨A5r7,L5r7,C5r7,rfl⟩,⟨A6r7,L6r7,C6r7,rfl⟩,⟨A7r7,L7r7,C7r7,rfl⟩⟩:=GCache.sl7 (T.ows_rds _ _ _ hN.ows);have HNW:=hide hN;clear hN;have E7_1:=hide (show Below wA7.heap.size wA7 wB7 from(by first|with_reducible exact hb|with_reducible exact undrew hb|with_reducible exact undrewN hb|with_reducible exact yJ hb|with_reducible exact undrew (yJ hb)|with_reducible exact yJ (undrew hb)|with_reducible exact undrewN (yJ hb)|with_reducible exact yJ (undrewN hb)));have D7_1:=hide (show Below w4.heap.size w4 wB7 from yG D7_0.out D7_0.out.size E7_1.out);have KX7_1:=hide (KX.out.below D7_1.out KX.out.lt);have KE7_1:=hide (KE.out.below D7_1.out KE.out.lt);(try (have G7_1_1:=hide (show Bk wB7 wA7.heap.size 43 #[.int .i64 0,.slice none 0 0,.slice none 0 0,.slice none 0 0,.slice none 0 0,.slice none 0 0,.slice none 0 0,.slice none 0 0] from by first|exact Bk.below (Bk.born _ _ _) hb (by simp)|exact Bk.below (Bk.drew (Bk.born _ _ _)) hb (by simp))));(try (have G7_0_1:=hide (G7_0_0.out.below E7_1.out G7_0_0.out.lt)));have ltKX7_1:=KX7_1.out.lt;have ltKE7_1:=KE7_1.out.lt;(try (have gc:=G7_0_1.out.cell;have gf:=G7_0_1.out.free;have gll:=G7_0_1.out.lt));(try (have gc:=G7_1_1.out.cell;have gf:=G7_1_1.out.free;have gll:=G7_1_1.out.lt));clear hb))
  ·
   have hlo:=HNW.out.lo;have hlt:=HNW.out.lt;have hz0:=D7_0.out.size
   exact REST7 wB7.heap.size _ _ _ _ _ _ _ _ _ _ _ _ _ _ _ _ _ _ _ _ _ _ _ _ _ _ _ _ _ _ _ _ _ _ _ _ _ _ _ _ _ _ _ _ _ (Bk.born _ _ _) D7_1.out.size (D7_1.out.alloc D7_1.out.size _) (T.ows_all HNW.out.ows ((Below.refl _ _).alloc (Nat.le_refl _) _)) HNW.out.nodup (fun b hb=>by have h1:=hlo b hb;have h2:=hlt b hb;exact⟨by omega,by omega⟩)
  ·
   have hgl:w4.heap.size≤wA7.heap.size:=D7_0.out.size
   have hlo:=HNW.out.lo
   have hz0:=D7_0.out.size
   have hlg:wA7.heap.size<(wA7.alloc (.cells #[.int .i64 0,.slice none 0 0,.slice none 0 0,.slice none 0 0,.slice none 0 0,.slice none 0 0,.slice none 0 0,.slice none 0 0] 43)).heap.size:=by simp
   have hgn:wA7.heap.size ∉ F7:=fun hm=>by have h1:=hlo _ hm;omega
   exact REST7 (wA7.heap.size) _ _ _ _ _ _ _ _ _ _ _ _ _ _ _ _ _ _ _ _ _ _ _ _ _ _ _ _ _ _ _ _ _ _ _ _ _ _ _ _ _ _ _ _ _ (by have:=(Bk.set_ (Bk.set_ (Bk.set_ (Bk.set_ (Bk.set_ (Bk.set_ (Bk.set_ (Bk.set_ G7_1_1.out 0 (.int .i64 RS.zB.zA)) 1 (.slice A1r7 L1r7 C1r7)) 2 (.slice A2r7 L2r7 C2r7)) 3 (.slice A3r7 L3r7 C3r7)) 4 (.slice A4r7 L4r7 C4r7)) 5 (.slice A5r7 L5r7 C5r7)) 6 (.slice A6r7 L6r7 C6r7)) 7 (.slice A7r7 L7r7 C7r7));simpa using this) hgl (Below.setCell (p:=⟨wA7.heap.size,7,none⟩) (Below.setCell (p:=⟨wA7.heap.size,6,none⟩) (Below.setCell (p:=⟨wA7.heap.size,5,none⟩) (Below.setCell (p:=⟨wA7.heap.size,4,none⟩) (Below.setCell (p:=⟨wA7.heap.size,3,none⟩) (Below.setCell (p:=⟨wA7.heap.size,2,none⟩) (Below.setCell (p:=⟨wA7.heap.size,1,none⟩) (Below.setCell (p:=⟨wA7.heap.size,0,none⟩) D7_1.out hgl (.int .i64 RS.zB.zA)) hgl (.slice A1r7 L1r7 C1r7)) hgl (.slice A2r7 L2r7 C2r7)) hgl (.slice A3r7 L3r7 C3r7)) hgl (.slice A4r7 L4r7 C4r7)) hgl (.slice A5r7 L5r7 C5r7)) hgl (.slice A6r7 L6r7 C6r7)) hgl (.slice A7r7 L7r7 C7r7)) (T.yM (T.yM (T.yM (T.yM (T.yM (T.yM (T.yM (T.yM HNW.out.ows hgn 0 (.int .i64 RS.zB.zA)) hgn 1 (.slice A1r7 L1r7 C1r7)) hgn 2 (.slice A2r7 L2r7 C2r7)) hgn 3 (.slice A3r7 L3r7 C3r7)) hgn 4 (.slice A4r7 L4r7 C4r7)) hgn 5 (.slice A5r7 L5r7 C5r7)) hgn 6 (.slice A6r7 L6r7 C6r7)) hgn 7 (.slice A7r7 L7r7 C7r7)) HNW.out.nodup (fun b hb=>by have h1:=hlo b hb;exact⟨by omega,by omega⟩)
  ·
   have hgl:w4.heap.size≤w4.heap.size:=Nat.le_refl _
   have hlo:=HNW.out.lo
   have hz0:=D7_0.out.size
   have hlg:w4.heap.size<wA7.heap.size:=G7_0_0.out.lt
   have hgn:w4.heap.size ∉ F7:=fun hm=>by have h1:=hlo _ hm;omega
   exact REST7 (w4.heap.size) _ _ _ _ _ _ _ _ _ _ _ _ _ _ _ _ _ _ _ _ _ _ _ _ _ _ _ _ _ _ _ _ _ _ _ _ _ _ _ _ _ _ _ _ _ (by have:=(Bk.set_ (Bk.set_ (Bk.set_ (Bk.set_ (Bk.set_ (Bk.set_ (Bk.set_ (Bk.set_ G7_0_1.out 0 (.int .i64 RS.zB.zA)) 1 (.slice A1r7 L1r7 C1r7)) 2 (.slice A2r7 L2r7 C2r7)) 3 (.slice A3r7 L3r7 C3r7)) 4 (.slice A4r7 L4r7 C4r7)) 5 (.slice A5r7 L5r7 C5r7)) 6 (.slice A6r7 L6r7 C6r7)) 7 (.slice A7r7 L7r7 C7r7));simpa using this) hgl (Below.setCell (p:=⟨w4.heap.size,7,none⟩) (Below.setCell (p:=⟨w4.heap.size,6,none⟩) (Below.setCell (p:=⟨w4.heap.size,5,none⟩) (Below.setCell (p:=⟨w4.heap.size,4,none⟩) (Below.setCell (p:=⟨w4.heap.size,3,none⟩) (Below.setCell (p:=⟨w4.heap.size,2,none⟩) (Below.setCell (p:=⟨w4.heap.size,1,none⟩) (Below.setCell (p:=⟨w4.heap.size,0,none⟩) D7_1.out hgl (.int .i64 RS.zB.zA)) hgl (.slice A1r7 L1r7 C1r7)) hgl (.slice A2r7 L2r7 C2r7)) hgl (.slice A3r7 L3r7 C3r7)) hgl (.slice A4r7 L4r7 C4r7)) hgl (.slice A5r7 L5r7 C5r7)) hgl (.slice A6r7 L6r7 C6r7)) hgl (.slice A7r7 L7r7 C7r7)) (T.yM (T.yM (T.yM (T.yM (T.yM (T.yM (T.yM (T.yM HNW.out.ows hgn 0 (.int .i64 RS.zB.zA)) hgn 1 (.slice A1r7 L1r7 C1r7)) hgn 2 (.slice A2r7 L2r7 C2r7)) hgn 3 (.slice A3r7 L3r7 C3r7)) hgn 4 (.slice A4r7 L4r7 C4r7)) hgn 5 (.slice A5r7 L5r7 C5r7)) hgn 6 (.slice A6r7 L6r7 C6r7)) hgn 7 (.slice A7r7 L7r7 C7r7)) HNW.out.nodup (fun b hb=>by have h1:=hlo b hb;exact⟨by omega,by omega⟩)
 have ltKS5:=KS.out.lt
 have ltKE5:=KE.out.lt
 go_region_held3 (fun w'=>(∀ i,w'.cell? ⟨w.heap.size,i,none⟩= #[.int .i64 x.zB.zA,(.slice va1 vl1 vc1),(.slice va2 vl2 vc2),(.slice va3 vl3 vc3),(.slice va4 vl4 vc4),(.slice va5 vl5 vc5),(.slice va6 vl6 vc6),(.slice va7 vl7 vc7)][i]?)∧(∀ i,w'.cell? ⟨(w.heap.size+1),i,none⟩= #[.int .i64 ed.zC,.int .i64 ed.zV,.int .i64 ed.zZ,.int .i64 ed.zY,.int .i64 ed.zP.zO,.int .i64 ed.zP.zI,.int .i64 ed.zP.zA,.int .i64 ed.zP.zW,.int .i64 ed.zP.zQ][i]?)) ((((try simp only[World.cell?_drew]));first|with_reducible exact⟨KS.out.cell,KE.out.cell⟩|with_reducible exact⟨(KS.out.alloc _).cell,(KE.out.alloc _).cell⟩|with_reducible exact⟨KS5_0.out.cell,KE5_0.out.cell⟩|with_reducible exact⟨(KS5_0.out.alloc _).cell,(KE5_0.out.alloc _).cell⟩|with_reducible exact⟨KS5_1.out.cell,KE5_1.out.cell⟩|with_reducible exact⟨(KS5_1.out.alloc _).cell,(KE5_1.out.alloc _).cell⟩|with_reducible exact⟨KS5_2.out.cell,KE5_2.out.cell⟩|with_reducible exact⟨(KS5_2.out.alloc _).cell,(KE5_2.out.alloc _).cell⟩|with_reducible exact⟨(Bk.far (Bk.far (Bk.far (Bk.far (Bk.far (Bk.far (Bk.far (Bk.far KS5_2.out (p:=⟨w1.heap.size,0,none⟩) (Nat.ne_of_lt (by with_reducible assumption)) (.int .i64 RS.zB.zA)) (p:=⟨w1.heap.size,1,none⟩) (Nat.ne_of_lt (by with_reducible assumption)) (.slice A1r5 L1r5 C1r5)) (p:=⟨w1.heap.size,2,none⟩) (Nat.ne_of_lt (by with_reducible assumption)) (.slice A2r5 L2r5 C2r5)) (p:=⟨w1.heap.size,3,none⟩) (Nat.ne_of_lt (by with_reducible assumption)) (.slice A3r5 L3r5 C3r5)) (p:=⟨w1.heap.size,4,none⟩) (Nat.ne_of_lt (by with_reducible assumption)) (.slice A4r5 L4r5 C4r5)) (p:=⟨w1.heap.size,5,none⟩) (Nat.ne_of_lt (by with_reducible assumption)) (.slice A5r5 L5r5 C5r5)) (p:=⟨w1.heap.size,6,none⟩) (Nat.ne_of_lt (by with_reducible assumption)) (.slice A6r5 L6r5 C6r5)) (p:=⟨w1.heap.size,7,none⟩) (Nat.ne_of_lt (by with_reducible assumption)) (.slice A7r5 L7r5 C7r5)).cell,(Bk.far (Bk.far (Bk.far (Bk.far (Bk.far (Bk.far (Bk.far (Bk.far KE5_2.out (p:=⟨w1.heap.size,0,none⟩) (Nat.ne_of_lt (by with_reducible assumption)) (.int .i64 RS.zB.zA)) (p:=⟨w1.heap.size,1,none⟩) (Nat.ne_of_lt (by with_reducible assumption)) (.slice A1r5 L1r5 C1r5)) (p:=⟨w1.heap.size,2,none⟩) (Nat.ne_of_lt (by with_reducible assumption)) (.slice A2r5 L2r5 C2r5)) (p:=⟨w1.heap.size,3,none⟩) (Nat.ne_of_lt (by with_reducible assumption)) (.slice A3r5 L3r5 C3r5)) (p:=⟨w1.heap.size,4,none⟩) (Nat.ne_of_lt (by with_reducible assumption)) (.slice A4r5 L4r5 C4r5)) (p:=⟨w1.heap.size,5,none⟩) (Nat.ne_of_lt (by with_reducible assumption)) (.slice A5r5 L5r5 C5r5)) (p:=⟨w1.heap.size,6,none⟩) (Nat.ne_of_lt (by with_reducible assumption)) (.slice A6r5 L6r5 C6r5)) (p:=⟨w1.heap.size,7,none⟩) (Nat.ne_of_lt (by with_reducible assumption)) (.slice A7r5 L7r5 C7r5)).cell⟩|with_reducible exact⟨(Bk.far (Bk.far (Bk.far (Bk.far (Bk.far (Bk.far (Bk.far (Bk.far KS5_2.out (p:=⟨wA5.heap.size,0,none⟩) (Nat.ne_of_lt (by with_reducible assumption)) (.int .i64 RS.zB.zA)) (p:=⟨wA5.heap.size,1,none⟩) (Nat.ne_of_lt (by with_reducible assumption)) (.slice A1r5 L1r5 C1r5)) (p:=⟨wA5.heap.size,2,none⟩) (Nat.ne_of_lt (by with_reducible assumption)) (.slice A2r5 L2r5 C2r5)) (p:=⟨wA5.heap.size,3,none⟩) (Nat.ne_of_lt (by with_reducible assumption)) (.slice A3r5 L3r5 C3r5)) (p:=⟨wA5.heap.size,4,none⟩) (Nat.ne_of_lt (by with_reducible assumption)) (.slice A4r5 L4r5 C4r5)) (p:=⟨wA5.heap.size,5,none⟩) (Nat.ne_of_lt (by with_reducible assumption)) (.slice A5r5 L5r5 C5r5)) (p:=⟨wA5.heap.size,6,none⟩) (Nat.ne_of_lt (by with_reducible assumption)) (.slice A6r5 L6r5 C6r5)) (p:=⟨wA5.heap.size,7,none⟩) (Nat.ne_of_lt (by with_reducible assumption)) (.slice A7r5 L7r5 C7r5)).cell,(Bk.far (Bk.far (Bk.far (Bk.far (Bk.far (Bk.far (Bk.far (Bk.far KE5_2.out (p:=⟨wA5.heap.size,0,none⟩) (Nat.ne_of_lt (by with_reducible assumption)) (.int .i64 RS.zB.zA)) (p:=⟨wA5.heap.size,1,none⟩) (Nat.ne_of_lt (by with_reducible assumption)) (.slice A1r5 L1r5 C1r5)) (p:=⟨wA5.heap.size,2,none⟩) (Nat.ne_of_lt (by with_reducible assumption)) (.slice A2r5 L2r5 C2r5)) (p:=⟨wA5.heap.size,3,none⟩) (Nat.ne_of_lt (by with_reducible assumption)) (.slice A3r5 L3r5 C3r5)) (p:=⟨wA5.heap.size,4,none⟩) (Nat.ne_of_lt (by with_reducible assumption)) (.slice A4r5 L4r5 C4r5)) (p:=⟨wA5.heap.size,5,none⟩) (Nat.ne_of_lt (by with_reducible assumption)) (.slice A5r5 L5r5 C5r5)) (p:=⟨wA5.heap.size,6,none⟩) (Nat.ne_of_lt (by with_reducible assumption)) (.slice A6r5 L6r5 C6r5)) (p:=⟨wA5.heap.size,7,none⟩) (Nat.ne_of_lt (by with_reducible assumption)) (.slice A7r5 L7r5 C7r5)).cell⟩|with_reducible exact⟨(Bk.far (Bk.far (Bk.far (Bk.far (Bk.far (Bk.far (Bk.far (Bk.far KS5_2.out (p:=⟨wB5.heap.size,0,none⟩) (Nat.ne_of_lt (by with_reducible assumption)) (.int .i64 RS.zB.zA)) (p:=⟨wB5.heap.size,1,none⟩) (Nat.ne_of_lt (by with_reducible assumption)) (.slice A1r5 L1r5 C1r5)) (p:=⟨wB5.heap.size,2,none⟩) (Nat.ne_of_lt (by with_reducible assumption)) (.slice A2r5 L2r5 C2r5)) (p:=⟨wB5.heap.size,3,none⟩) (Nat.ne_of_lt (by with_reducible assumption)) (.slice A3r5 L3r5 C3r5)) (p:=⟨wB5.heap.size,4,none⟩) (Nat.ne_of_lt (by with_reducible assumption)) (.slice A4r5 L4r5 C4r5)) (p:=⟨wB5.heap.size,5,none⟩) (Nat.ne_of_lt (by with_reducible assumption)) (.slice A5r5 L5r5 C5r5)) (p:=⟨wB5.heap.size,6,none⟩) (Nat.ne_of_lt (by with_reducible assumption)) (.slice A6r5 L6r5 C6r5)) (p:=⟨wB5.heap.size,7,none⟩) (Nat.ne_of_lt (by with_reducible assumption)) (.slice A7r5 L7r5 C7r5)).cell,(Bk.far (Bk.far (Bk.far (Bk.far (Bk.far (Bk.far (Bk.far (Bk.far KE5_2.out (p:=⟨wB5.heap.size,0,none⟩) (Nat.ne_of_lt (by with_reducible assumption)) (.int .i64 RS.zB.zA)) (p:=⟨wB5.heap.size,1,none⟩) (Nat.ne_of_lt (by with_reducible assumption)) (.slice A1r5 L1r5 C1r5)) (p:=⟨wB5.heap.size,2,none⟩) (Nat.ne_of_lt (by with_reducible assumption)) (.slice A2r5 L2r5 C2r5)) (p:=⟨wB5.heap.size,3,none⟩) (Nat.ne_of_lt (by with_reducible assumption)) (.slice A3r5 L3r5 C3r5)) (p:=⟨wB5.heap.size,4,none⟩) (Nat.ne_of_lt (by with_reducible assumption)) (.slice A4r5 L4r5 C4r5)) (p:=⟨wB5.heap.size,5,none⟩) (Nat.ne_of_lt (by with_reducible assumption)) (.slice A5r5 L5r5 C5r5)) (p:=⟨wB5.heap.size,6,none⟩) (Nat.ne_of_lt (by with_reducible assumption)) (.slice A6r5 L6r5 C6r5)) (p:=⟨wB5.heap.size,7,none⟩) (Nat.ne_of_lt (by with_reducible assumption)) (.slice A7r5 L7r5 C7r5)).cell⟩|(trace_state;fail))) (first|(go_at_call 8;refine(b_toCache x _ _ sx (T.rds_below HX.out (by first|with_reducible exact H1.out|with_reducible exact H1.out.drew|with_reducible exact(below_drewN H1.out _)|with_reducible exact(H1.out.alloc (H1.out.size) _)|with_reducible exact(H1.out.alloc (H1.out.size) _).drew|with_reducible exact((H1.out.drew).alloc (H1.out.size) _)|with_reducible exact(below_drewN (H1.out.alloc (H1.out.size) _) _)|with_reducible exact((below_drewN H1.out _).alloc (H1.out.size) _)))).mono ?_;rintro e wA5 ⟨ds,rfl,hds,hb⟩;have E5_0:=hide (show Below w1.heap.size w1 wA5 from(by first|with_reducible exact hb|with_reducible exact undrew hb|with_reducible exact undrewN hb|with_reducible exact yJ hb|with_reducible exact undrew (yJ hb)|with_reducible exact yJ (undrew hb)|with_reducible exact undrewN (yJ hb)|with_reducible exact yJ (undrewN hb)));have D5_0:=hide (show Below w1.heap.size w1 wA5 from E5_0.out);have KS5_0:=hide (KS.out.below D5_0.out KS.out.lt);have KE5_0:=hide (KE.out.below D5_0.out KE.out.lt);(try (have G5_0_0:=hide (show Bk wA5 w1.heap.size 43 #[.int .i64 0,.slice none 0 0,.slice none 0 0,.slice none 0 0,.slice none 0 0,.slice none 0 0,.slice none 0 0,.slice none 0 0] from by first|exact Bk.below (Bk.born _ _ _) hb (by simp)|exact Bk.below (Bk.drew (Bk.born _ _ _)) hb (by simp))));have ltKS5_0:=KS5_0.out.lt;have ltKE5_0:=KE5_0.out.lt;clear hb)|(go_at_call 20;refine(c_toEdit ed _).mono ?_;rintro e wB5 ⟨rfl,hb⟩;have E5_1:=hide (show Below wA5.heap.size wA5 wB5 from(by first|with_reducible exact hb|with_reducible exact undrew hb|with_reducible exact undrewN hb|with_reducible exact yJ hb|with_reducible exact undrew (yJ hb)|with_reducible exact yJ (undrew hb)|with_reducible exact undrewN (yJ hb)|with_reducible exact yJ (undrewN hb)));have D5_1:=hide (show Below w1.heap.size w1 wB5 from yG D5_0.out D5_0.out.size E5_1.out);have KS5_1:=hide (KS.out.below D5_1.out KS.out.lt);have KE5_1:=hide (KE.out.below D5_1.out KE.out.lt);(try (have G5_1_1:=hide (show Bk wB5 wA5.heap.size 43 #[.int .i64 0,.slice none 0 0,.slice none 0 0,.slice none 0 0,.slice none 0 0,.slice none 0 0,.slice none 0 0,.slice none 0 0] from by first|exact Bk.below (Bk.born _ _ _) hb (by simp)|exact Bk.below (Bk.drew (Bk.born _ _ _)) hb (by simp))));(try (have G5_0_1:=hide (G5_0_0.out.below E5_1.out G5_0_0.out.lt)));have ltKS5_1:=KS5_1.out.lt;have ltKE5_1:=KE5_1.out.lt;clear hb)|(go_at_call 19;refine(SI.out _ _ (T.rds_below hds (by first|with_reducible exact E5_1.out|with_reducible exact E5_1.out.drew|with_reducible exact(below_drewN E5_1.out _)|with_reducible exact(E5_1.out.alloc (E5_1.out.size) _)|with_reducible exact(E5_1.out.alloc (E5_1.out.size) _).drew|with_reducible exact((E5_1.out.drew).alloc (E5_1.out.size) _)|with_reducible exact(below_drewN (E5_1.out.alloc (E5_1.out.size) _) _)|with_reducible exact((below_drewN E5_1.out _).alloc (E5_1.out.size) _)))).mono ?_;rintro e wC5 ⟨v1,v2,v3,v4,v5,v6,v7,F5,rfl,hN⟩;have hb:=hN.below;obtain⟨⟨A1r5,L1r5,C1r5,rfl⟩,⟨A2r5,L2r5,C2r5,rfl⟩,⟨A3r5,L3r5,C3r5,rfl⟩,⟨A4r5,L4r5,C4r5,rfl⟩,⟨A5r5,L5r5,C5r5,rfl⟩,⟨A6r5,L6r5,C6r5,rfl⟩,⟨A7r5,L7r5,C7r5,rfl⟩⟩:=GCache.sl7 (T.ows_rds _ _ _ hN.ows);have HNW:=hide hN;clear hN;have E5_2:=hide (show Below wB5.heap.size wB5 wC5 from(by first|with_reducible exact hb|with_reducible exact undrew hb|with_reducible exact undrewN hb|with_reducible exact yJ hb|with_reducible exact undrew (yJ hb)|with_reducible exact yJ (undrew hb)|with_reducible exact undrewN (yJ hb)|with_reducible exact yJ (undrewN hb)));have D5_2:=hide (show Below w1.heap.size w1 wC5 from yG D5_1.out D5_1.out.size E5_2.out);have KS5_2:=hide (KS.out.below D5_2.out KS.out.lt);have KE5_2:=hide (KE.out.below D5_2.out KE.out.lt);(try (have G5_2_2:=hide (show Bk wC5 wB5.heap.size 43 #[.int .i64 0,.slice none 0 0,.slice none 0 0,.slice none 0 0,.slice none 0 0,.slice none 0 0,.slice none 0 0,.slice none 0 0] from by first|exact Bk.below (Bk.born _ _ _) hb (by simp)|exact Bk.below (Bk.drew (Bk.born _ _ _)) hb (by simp))));(try (have G5_0_2:=hide (G5_0_1.out.below E5_2.out G5_0_1.out.lt)));(try (have G5_1_2:=hide (G5_1_1.out.below E5_2.out G5_1_1.out.lt)));have ltKS5_2:=KS5_2.out.lt;have ltKE5_2:=KE5_2.out.lt;(try (have gc:=G5_0_2.out.cell;have gf:=G5_0_2.out.free;have gll:=G5_0_2.out.lt));(try (have gc:=G5_1_2.out.cell;have gf:=G5_1_2.out.free;have gll:=G5_1_2.out.lt));(try (have gc:=G5_2_2.out.cell;have gf:=G5_2_2.out.free;have gll:=G5_2_2.out.lt));clear hb))
 ·
  have hlo:=HNW.out.lo;have hlt:=HNW.out.lt;have hz0:=D5_1.out.size
  exact REST5 wC5.heap.size _ _ _ _ _ _ _ _ _ _ _ _ _ _ _ _ _ _ _ _ _ _ _ _ _ _ _ _ _ _ _ _ _ _ _ _ (Bk.born _ _ _) D5_2.out.size (D5_2.out.alloc D5_2.out.size _) (T.ows_all HNW.out.ows ((Below.refl _ _).alloc (Nat.le_refl _) _)) HNW.out.nodup (fun b hb=>by have h1:=hlo b hb;have h2:=hlt b hb;exact⟨by omega,by omega⟩)
 ·
  have hgl:w1.heap.size≤wB5.heap.size:=D5_1.out.size
  have hlo:=HNW.out.lo
  have hz0:=D5_1.out.size
  have hlg:wB5.heap.size<(wB5.alloc (.cells #[.int .i64 0,.slice none 0 0,.slice none 0 0,.slice none 0 0,.slice none 0 0,.slice none 0 0,.slice none 0 0,.slice none 0 0] 43)).heap.size:=by simp
  have hgn:wB5.heap.size ∉ F5:=fun hm=>by have h1:=hlo _ hm;omega
  exact REST5 (wB5.heap.size) _ _ _ _ _ _ _ _ _ _ _ _ _ _ _ _ _ _ _ _ _ _ _ _ _ _ _ _ _ _ _ _ _ _ _ _ (by have:=(Bk.set_ (Bk.set_ (Bk.set_ (Bk.set_ (Bk.set_ (Bk.set_ (Bk.set_ (Bk.set_ G5_2_2.out 0 (.int .i64 RS.zB.zA)) 1 (.slice A1r5 L1r5 C1r5)) 2 (.slice A2r5 L2r5 C2r5)) 3 (.slice A3r5 L3r5 C3r5)) 4 (.slice A4r5 L4r5 C4r5)) 5 (.slice A5r5 L5r5 C5r5)) 6 (.slice A6r5 L6r5 C6r5)) 7 (.slice A7r5 L7r5 C7r5));simpa using this) hgl (Below.setCell (p:=⟨wB5.heap.size,7,none⟩) (Below.setCell (p:=⟨wB5.heap.size,6,none⟩) (Below.setCell (p:=⟨wB5.heap.size,5,none⟩) (Below.setCell (p:=⟨wB5.heap.size,4,none⟩) (Below.setCell (p:=⟨wB5.heap.size,3,none⟩) (Below.setCell (p:=⟨wB5.heap.size,2,none⟩) (Below.setCell (p:=⟨wB5.heap.size,1,none⟩) (Below.setCell (p:=⟨wB5.heap.size,0,none⟩) D5_2.out hgl (.int .i64 RS.zB.zA)) hgl (.slice A1r5 L1r5 C1r5)) hgl (.slice A2r5 L2r5 C2r5)) hgl (.slice A3r5 L3r5 C3r5)) hgl (.slice A4r5 L4r5 C4r5)) hgl (.slice A5r5 L5r5 C5r5)) hgl (.slice A6r5 L6r5 C6r5)) hgl (.slice A7r5 L7r5 C7r5)) (T.yM (T.yM (T.yM (T.yM (T.yM (T.yM (T.yM (T.yM HNW.out.ows hgn 0 (.int .i64 RS.zB.zA)) hgn 1 (.slice A1r5 L1r5 C1r5)) hgn 2 (.slice A2r5 L2r5 C2r5)) hgn 3 (.slice A3r5 L3r5 C3r5)) hgn 4 (.slice A4r5 L4r5 C4r5)) hgn 5 (.slice A5r5 L5r5 C5r5)) hgn 6 (.slice A6r5 L6r5 C6r5)) hgn 7 (.slice A7r5 L7r5 C7r5)) HNW.out.nodup (fun b hb=>by have h1:=hlo b hb;exact⟨by omega,by omega⟩)
 ·
  have hgl:w1.heap.size≤wA5.heap.size:=D5_0.out.size
  have hlo:=HNW.out.lo
  have hz0:=D5_1.out.size
  have hlg:wA5.heap.size<wB5.heap.size:=G5_1_1.out.lt
  have hgn:wA5.heap.size ∉ F5:=fun hm=>by have h1:=hlo _ hm;omega
  exact REST5 (wA5.heap.size) _ _ _ _ _ _ _ _ _ _ _ _ _ _ _ _ _ _ _ _ _ _ _ _ _ _ _ _ _ _ _ _ _ _ _ _ (by have:=(Bk.set_ (Bk.set_ (Bk.set_ (Bk.set_ (Bk.set_ (Bk.set_ (Bk.set_ (Bk.set_ G5_1_2.out 0 (.int .i64 RS.zB.zA)) 1 (.slice A1r5 L1r5 C1r5)) 2 (.slice A2r5 L2r5 C2r5)) 3 (.slice A3r5 L3r5 C3r5)) 4 (.slice A4r5 L4r5 C4r5)) 5 (.slice A5r5 L5r5 C5r5)) 6 (.slice A6r5 L6r5 C6r5)) 7 (.slice A7r5 L7r5 C7r5));simpa using this) hgl (Below.setCell (p:=⟨wA5.heap.size,7,none⟩) (Below.setCell (p:=⟨wA5.heap.size,6,none⟩) (Below.setCell (p:=⟨wA5.heap.size,5,none⟩) (Below.setCell (p:=⟨wA5.heap.size,4,none⟩) (Below.setCell (p:=⟨wA5.heap.size,3,none⟩) (Below.setCell (p:=⟨wA5.heap.size,2,none⟩) (Below.setCell (p:=⟨wA5.heap.size,1,none⟩) (Below.setCell (p:=⟨wA5.heap.size,0,none⟩) D5_2.out hgl (.int .i64 RS.zB.zA)) hgl (.slice A1r5 L1r5 C1r5)) hgl (.slice A2r5 L2r5 C2r5)) hgl (.slice A3r5 L3r5 C3r5)) hgl (.slice A4r5 L4r5 C4r5)) hgl (.slice A5r5 L5r5 C5r5)) hgl (.slice A6r5 L6r5 C6r5)) hgl (.slice A7r5 L7r5 C7r5)) (T.yM (T.yM (T.yM (T.yM (T.yM (T.yM (T.yM (T.yM HNW.out.ows hgn 0 (.int .i64 RS.zB.zA)) hgn 1 (.slice A1r5 L1r5 C1r5)) hgn 2 (.slice A2r5 L2r5 C2r5)) hgn 3 (.slice A3r5 L3r5 C3r5)) hgn 4 (.slice A4r5 L4r5 C4r5)) hgn 5 (.slice A5r5 L5r5 C5r5)) hgn 6 (.slice A6r5 L6r5 C6r5)) hgn 7 (.slice A7r5 L7r5 C7r5)) HNW.out.nodup (fun b hb=>by have h1:=hlo b hb;exact⟨by omega,by omega⟩)
 ·
  have hgl:w1.heap.size≤w1.heap.size:=Nat.le_refl _
  have hlo:=HNW.out.lo
  have hz0:=D5_1.out.size
  have hlg:w1.heap.size<wB5.heap.size:=G5_0_1.out.lt
  have hgn:w1.heap.size ∉ F5:=fun hm=>by have h1:=hlo _ hm;omega
  exact REST5 (w1.heap.size) _ _ _ _ _ _ _ _ _ _ _ _ _ _ _ _ _ _ _ _ _ _ _ _ _ _ _ _ _ _ _ _ _ _ _ _ (by have:=(Bk.set_ (Bk.set_ (Bk.set_ (Bk.set_ (Bk.set_ (Bk.set_ (Bk.set_ (Bk.set_ G5_0_2.out 0 (.int .i64 RS.zB.zA)) 1 (.slice A1r5 L1r5 C1r5)) 2 (.slice A2r5 L2r5 C2r5)) 3 (.slice A3r5 L3r5 C3r5)) 4 (.slice A4r5 L4r5 C4r5)) 5 (.slice A5r5 L5r5 C5r5)) 6 (.slice A6r5 L6r5 C6r5)) 7 (.slice A7r5 L7r5 C7r5));simpa using this) hgl (Below.setCell (p:=⟨w1.heap.size,7,none⟩) (Below.setCell (p:=⟨w1.heap.size,6,none⟩) (Below.setCell (p:=⟨w1.heap.size,5,none⟩) (Below.setCell (p:=⟨w1.heap.size,4,none⟩) (Below.setCell (p:=⟨w1.heap.size,3,none⟩) (Below.setCell (p:=⟨w1.heap.size,2,none⟩) (Below.setCell (p:=⟨w1.heap.size,1,none⟩) (Below.setCell (p:=⟨w1.heap.size,0,none⟩) D5_2.out hgl (.int .i64 RS.zB.zA)) hgl (.slice A1r5 L1r5 C1r5)) hgl (.slice A2r5 L2r5 C2r5)) hgl (.slice A3r5 L3r5 C3r5)) hgl (.slice A4r5 L4r5 C4r5)) hgl (.slice A5r5 L5r5 C5r5)) hgl (.slice A6r5 L6r5 C6r5)) hgl (.slice A7r5 L7r5 C7r5)) (T.yM (T.yM (T.yM (T.yM (T.yM (T.yM (T.yM (T.yM HNW.out.ows hgn 0 (.int .i64 RS.zB.zA)) hgn 1 (.slice A1r5 L1r5 C1r5)) hgn 2 (.slice A2r5 L2r5 C2r5)) hgn 3 (.slice A3r5 L3r5 C3r5)) hgn 4 (.slice A4r5 L4r5 C4r5)) hgn 5 (.slice A5r5 L5r5 C5r5)) hgn 6 (.slice A6r5 L6r5 C6r5)) hgn 7 (.slice A7r5 L7r5 C7r5)) HNW.out.nodup (fun b hb=>by have h1:=hlo b hb;exact⟨by omega,by omega⟩)
end Go.Proofs.YteiflbhcehajkaaGreat
