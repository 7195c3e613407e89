/- Contracts: the mix of a session, both sides. Contract: copyPatch. Data without slices in it: copied by append of all. No program is named here. -/
import Derived.Test.YtoibekfhepnedaaGreatQBbExactMakeCache
import Derived.Test.YtoibekfhepnedaaGreatQBeExactMakeCache
import Derived.Test.YtoibekfhepnedaaGreatQAxExactMakeCache
import Derived.Test.YtoibekfhepnedaaGreatQAuExactMakeCache
import Derived.Deep.RegionHeldLaw
import Derived.Deep.RegionHeld3
import Derived.Deep.RegionLaw
import Derived.Test.YtoibekfhepnedaaGreatQAbExactMakeCache
set_option linter.unusedVariables false
set_option linter.unusedSimpArgs false
set_option maxHeartbeats 8000000
set_option maxRecDepth 100000
namespace Go.Proofs.YtoibekfhepnedaaGreat
section
open Go.RowKit
theorem c_slice' (v:Value) (xs:List Int) (f:Int) (n:Nat) (w:World) {N:Int} (hN:N=(n:Int)) (h0:0≤f) (h1:f≤1048576) (hn:n≤1048576) (hr:RdI w v xs):Calls Tryz.prog 133 #[v,.int .i64 f,.int .i64 N] w fun e w'=> ∃ v',e= .returned v'∧OwI 2 w' w.heap.size v' (cutL xs f n)∧Below w.heap.size w w':=by
 subst hN;exact c_slice v xs f n w h0 h1 hn hr
theorem c_l03Slice' (v:Value) (xs:List Int) (f:Int) (n:Nat) (w:World) {N:Int} (hN:N=(n:Int)) (h0: -1048576≤f) (h1:f≤1048576) (hn:n≤1048576) (hr:RdI w v xs):Calls Tryz.prog 128 #[v,.int .i64 f,.int .i64 N] w fun e w'=> ∃ v',e= .returned v'∧OwI 2 w' w.heap.size v' (cutL xs f n)∧Below w.heap.size w w':=by
 subst hN;exact c_l03Slice v xs f n w h0 h1 hn hr
theorem c_mix (x:xK) (cs:List Value) (w:World) (hS:vL x) (hg:x.good) (h:T.rds w x.fs cs):Calls Tryz.prog 61 #[.agg cs.toArray] w fun e w'=> ∃ v,e= .returned v∧OwI 2 w' w.heap.size v (mixF x)∧Below w.heap.size w w':=by
 obtain⟨v1,v2,v3,v4,v5,rfl,h1,h2,h3,h4,h5⟩:=xK.yO h
 clear h
 have R1:=hide h1;obtain⟨va1,vc1,rfl,vl1,vm1,vx1⟩:=T.yN h1
 have HX1:=hide vx1;clear vx1 h1
 have R2:=hide h2;obtain⟨va2,vc2,rfl,vl2,vm2,vx2⟩:=T.yN h2
 have HX2:=hide vx2;clear vx2 h2
 have h3i:=T.yT.1 h3;obtain⟨va3,vc3,rfl,vl3,vm3,vx3⟩:=h3i.open_
 have R3:=hide h3i;have HX3:=hide vx3;clear vx3 h3 h3i
 have R4:=hide h4;obtain⟨va4,vc4,rfl,vl4,vm4,vx4⟩:=T.yN h4
 have HX4:=hide vx4;clear vx4 h4
 have R5:=hide h5;obtain⟨va5,vc5,rfl,vl5,vm5,vx5⟩:=T.yN h5
 have HX5:=hide vx5;clear vx5 h5
 have HB0:=hide (show Below w.heap.size w (w.alloc (.cells #[.int .i64 x.zF,(.slice va1 x.zL.length vc1),(.slice va2 x.zO.length vc2),(.slice va3 x.zQ.length vc3),(.slice va4 x.zP.length vc4),(.slice va5 x.zG.zC.length vc5)] 32)) from(Below.refl _ _).alloc (Nat.le_refl _) _)
 have HK0:=hide (Bk.born w 32 #[.int .i64 x.zF,(.slice va1 x.zL.length vc1),(.slice va2 x.zO.length vc2),(.slice va3 x.zQ.length vc3),(.slice va4 x.zP.length vc4),(.slice va5 x.zG.zC.length vc5)])
 have HSO:=hide hS;have hn8:x.zG.zC.length≤8:=hS.mixer.few;have hn1:1≤x.zG.zC.length:=hS.mixer.some_;have htot:=total_ok hS.mixer;have hle:=xC.1 hS.length;have HGD:=hide hg
 obtain⟨lenN,hlen⟩: ∃ q:Nat,x.zF=(q:Int):=⟨x.zF.toNat,by omega⟩
 have hl0:lenN≤1000:=by omega
 obtain⟨row,hrow,hrowd,-,-⟩:=(outsF_ok hS).get (show x.zG.zC.length - 1<x.zG.zC.length by omega)
 have HMX:=hide (show cutL row (vN x.zG) lenN=mixF x by unfold mixF;rw[hrowd,hlen,Int.toNat_natCast])
 have hol:=(outsF_ok hS).len;have HRY:=hide (ready_last hS.mixer);have hryl:=length_readyF x.zG
 have HROW:=hide hrow;have HLEN:=hide hlen;clear hS hg hrow hrowd hlen
 obtain⟨m1,hm1⟩: ∃ m1:Nat,x.zG.zC.length - 1=m1:=⟨_,rfl⟩
 rw[hm1] at HROW HRY
 have hm2:x.zG.zC.length=m1+1:=by omega
 have hwm:IntKind.i64.wrap ((x.zG.zC.length:Int) - 1)=(m1:Int):=by rw[IntWalk.i64_in _ (by omega)];omega
 have HM2:=hide hm2;have hm3:m1<x.zG.zC.length:=by omega
 clear hm1 hm2
 go_enter Tryz.func61,Tryz.ntmps61
 go_wp2_with fail
 refine(c_strips x _ _ HSO.out HGD.out (xK.rd_mk (T.yF R1.out HB0.out) (T.yF R2.out HB0.out) (T.yT.2 (Rd.below R3.out HB0.out)) (T.yF R4.out HB0.out) (T.yF R5.out HB0.out))).mono ?_;rintro e w1 ⟨vo,vr,rfl,ho,hr,hd⟩
 have hb:Below (w.alloc (.cells #[.int .i64 x.zF,(.slice va1 x.zL.length vc1),(.slice va2 x.zO.length vc2),(.slice va3 x.zQ.length vc3),(.slice va4 x.zP.length vc4),(.slice va5 x.zG.zC.length vc5)] 32)).heap.size (w.alloc (.cells #[.int .i64 x.zF,(.slice va1 x.zL.length vc1),(.slice va2 x.zO.length vc2),(.slice va3 x.zQ.length vc3),(.slice va4 x.zP.length vc4),(.slice va5 x.zG.zC.length vc5)] 32)) w1:=by first|exact hd|exact hd.to_below _|exact hd ▸ Below.refl _ _
 have HK1:=hide (HK0.out.below hb HK0.out.lt);have HB1:=hide (yJ HB0.out HB0.out.size hb);clear hb hd;have ka:=HK1.out.cell;have la:=HK1.out.lt
 obtain⟨oA,ocap,rfl,-,-,ox⟩:=T.yN ho
 rw[hol] at *
 obtain⟨bo,oo,cso,hAo,hbo,hcso,hcello⟩:=ox _ _ HROW.out
 subst hAo
 obtain⟨vrow,rfl⟩:=T.rd_one hcso
 have eo:=hcello 0 vrow rfl;rw[Nat.mul_one,Nat.add_zero] at eo
 have HRR:=hide (T.yT.1 hcso);have HEO:=hide eo;clear hcso hcello eo ox ho
 obtain⟨bR,oR,cR,rfl,-,-,hbR,hxR⟩:=xO hr (by omega)
 rw[hryl] at *
 have HER:=hide (hxR _ _ HRY.out);clear hxR hr
 go_wp2
 have HDr:=hide ((Below.refl w1.heap.size w1).drew);have HWd:=hide (show w1.cell? ⟨w.heap.size,0,none⟩=some (.int .i64 x.zF)∧w1.cell? ⟨bo,oo+m1,none⟩=some vrow∧w1.cell? ⟨bR,oR+m1,none⟩=some (.int .i64 (vN x.zG)) from⟨ka 0,HEO.out,HER.out⟩)
 have HKP:=hide (fun(w':World) (hw:Below w1.heap.size w1 w')=>(⟨(hw.cell (World.block_lt_of_cell? _ _ HWd.out.1)).trans HWd.out.1,(hw.cell (World.block_lt_of_cell? _ _ HWd.out.2.1)).trans HWd.out.2.1,(hw.cell (World.block_lt_of_cell? _ _ HWd.out.2.2)).trans HWd.out.2.2⟩:w'.cell? ⟨w.heap.size,0,none⟩=some (.int .i64 x.zF)∧w'.cell? ⟨bo,oo+m1,none⟩=some vrow∧w'.cell? ⟨bR,oR+m1,none⟩=some (.int .i64 (vN x.zG))))
 clear ka la
 refine wE (fun w'=>w'.cell? ⟨w.heap.size,0,none⟩=some (.int .i64 x.zF)∧w'.cell? ⟨bo,oo+m1,none⟩=some vrow∧w'.cell? ⟨bR,oR+m1,none⟩=some (.int .i64 (vN x.zG))) [] (by kernel_rfl) ?_ (fun hS0=>?_)
 ·exact HKP.out _ HDr.out
 generalize hwd:w1.drew=wd at *;clear hwd
 refine tN 0 hS0 ?_
 refine tN 1 hS0 ?_
 refine tN 2 hS0 ?_
 refine tN 3 hS0 ?_
 refine tN 4 hS0 ?_
 refine tN 5 hS0 ?_
 refine tN 6 hS0 ?_
 refine tN 7 hS0 ?_
 refine tN 8 hS0 ?_
 refine tN 9 hS0 ?_
 refine oN 10 (fun K hK=>?_)
 go_simp
 go_wp2_with (go_at_call 133;refine(c_slice' _ row (vN x.zG) lenN _ HLEN.out htot.1 (by omega) (by omega) (RdI.below HRR.out HDr.out)).mono ?_;rintro e w2 ⟨v2,rfl,ho,hb⟩)
 have HO2:=hide (OwI.more ho (Nat.le_trans HB1.out.size HDr.out.size));have HD2:=hide (yJ HDr.out HDr.out.size hb);clear ho hb
 refine uN hK ?_ (fun hS1=>?_)
 ·exact HKP.out _ HD2.out
 clear hK K hS0
 refine oN 11 (fun K hK=>?_)
 go_simp
 refine uN hK ?_ (fun hS2=>?_)
 ·exact HKP.out _ HD2.out
 clear hK K hS1
 refine xY (by kernel_rfl) ?_
 clear hS2
 go_wp2
 go_ret
 exact⟨_,rfl,by rw[←HMX.out];exact HO2.out,yJ HB1.out HB1.out.size HD2.out⟩
theorem c_l27Mix (x:xK) (b o:Nat) (w:World) (hS:vL x) (hg:x.good) (h:T.at w x.fs b o):Calls Tryz.prog 55 #[.pointer (some ⟨b,o,none⟩)] w fun e w'=> ∃ v,e= .returned v∧OwI 2 w' w.heap.size v (mixF x)∧Below w.heap.size w w':=by
 have HAT:=hide h
 obtain⟨hlt0,cs,hr,hc⟩:=h
 obtain⟨v1,v2,v3,v4,v5,rfl,h1,h2,h3,h4,h5⟩:=xK.yO hr
 clear hr
 have R1:=hide h1;obtain⟨va1,vc1,rfl,vl1,vm1,vx1⟩:=T.yN h1
 have HX1:=hide vx1;clear vx1 h1
 have R2:=hide h2;obtain⟨va2,vc2,rfl,vl2,vm2,vx2⟩:=T.yN h2
 have HX2:=hide vx2;clear vx2 h2
 have h3i:=T.yT.1 h3;obtain⟨va3,vc3,rfl,vl3,vm3,vx3⟩:=h3i.open_
 have R3:=hide h3i;have HX3:=hide vx3;clear vx3 h3 h3i
 have R4:=hide h4;obtain⟨va4,vc4,rfl,vl4,vm4,vx4⟩:=T.yN h4
 have HX4:=hide vx4;clear vx4 h4
 have R5:=hide h5;obtain⟨va5,vc5,rfl,vl5,vm5,vx5⟩:=T.yN h5
 have HX5:=hide vx5;clear vx5 h5
 have HL:=hide hlt0;have HCC:=hide hc;have HB0:=hide (Below.refl w.heap.size w);clear hlt0 hc
 have HSO:=hide hS;have hn8:x.zG.zC.length≤8:=hS.mixer.few;have hn1:1≤x.zG.zC.length:=hS.mixer.some_;have htot:=total_ok hS.mixer;have hle:=xC.1 hS.length;have HGD:=hide hg
 obtain⟨lenN,hlen⟩: ∃ q:Nat,x.zF=(q:Int):=⟨x.zF.toNat,by omega⟩
 have hl0:lenN≤1000:=by omega
 obtain⟨row,hrow,hrowd,-,-⟩:=(outsF_ok hS).get (show x.zG.zC.length - 1<x.zG.zC.length by omega)
 have HMX:=hide (show cutL row (vN x.zG) lenN=mixF x by unfold mixF;rw[hrowd,hlen,Int.toNat_natCast])
 have hol:=(outsF_ok hS).len;have HRY:=hide (ready_last hS.mixer);have hryl:=length_readyF x.zG
 have HROW:=hide hrow;have HLEN:=hide hlen;clear hS hg hrow hrowd hlen
 obtain⟨m1,hm1⟩: ∃ m1:Nat,x.zG.zC.length - 1=m1:=⟨_,rfl⟩
 rw[hm1] at HROW HRY
 have hm2:x.zG.zC.length=m1+1:=by omega
 have hwm:IntKind.i64.wrap ((x.zG.zC.length:Int) - 1)=(m1:Int):=by rw[IntWalk.i64_in _ (by omega)];omega
 have HM2:=hide hm2;have hm3:m1<x.zG.zC.length:=by omega
 clear hm1 hm2
 have HATM:=hide (show T.at w x.zG.fs b (o+5) from T.at_sub [.int .i64 x.zF,.slice va1 x.zL.length vc1,.slice va2 x.zO.length vc2,.slice va3 x.zQ.length vc3,.slice va4 x.zP.length vc4] [.slice va5 x.zG.zC.length vc5] [] HL.out HCC.out (xU.rd_mk R5.out))
 have p0:w.cell? ⟨b,o,none⟩=some (.int .i64 x.zF):=(HB0.out.cell HL.out).trans (HCC.out 0 _ rfl)
 have p1:w.cell? ⟨b,o+1,none⟩=some (.slice va1 x.zL.length vc1):=(HB0.out.cell HL.out).trans (HCC.out 1 _ rfl)
 have p2:w.cell? ⟨b,o+2,none⟩=some (.slice va2 x.zO.length vc2):=(HB0.out.cell HL.out).trans (HCC.out 2 _ rfl)
 have p3:w.cell? ⟨b,o+3,none⟩=some (.slice va3 x.zQ.length vc3):=(HB0.out.cell HL.out).trans (HCC.out 3 _ rfl)
 have p4:w.cell? ⟨b,o+4,none⟩=some (.slice va4 x.zP.length vc4):=(HB0.out.cell HL.out).trans (HCC.out 4 _ rfl)
 have p5:w.cell? ⟨b,o+5,none⟩=some (.slice va5 x.zG.zC.length vc5):=(HB0.out.cell HL.out).trans (HCC.out 5 _ rfl)
 have lb:b<w.heap.size:=lL HL.out HB0.out.size
 go_enter Tryz.func55,Tryz.ntmps55
 go_wp2_with fail
 refine(c_l27Outputs x b o _ HSO.out HGD.out HAT.out).mono ?_;rintro e w1 ⟨vo,rfl,ho,hb⟩
 have HB1:=hide hb;clear hb p0 p1 p2 p3 p4 p5 lb
 obtain⟨oA,ocap,rfl,-,-,ox⟩:=T.yN ho
 rw[hol] at *
 obtain⟨bo,oo,cso,hAo,hbo,hcso,hcello⟩:=ox _ _ HROW.out
 subst hAo
 obtain⟨vrow,rfl⟩:=T.rd_one hcso
 have eo:=hcello 0 vrow rfl;rw[Nat.mul_one,Nat.add_zero] at eo
 have HRR:=hide (T.yT.1 hcso);have HEO:=hide eo;clear hcso hcello eo ox ho
 have p0:w1.cell? ⟨b,o,none⟩=some (.int .i64 x.zF):=(HB1.out.cell HL.out).trans (HCC.out 0 _ rfl)
 have p1:w1.cell? ⟨b,o+1,none⟩=some (.slice va1 x.zL.length vc1):=(HB1.out.cell HL.out).trans (HCC.out 1 _ rfl)
 have p2:w1.cell? ⟨b,o+2,none⟩=some (.slice va2 x.zO.length vc2):=(HB1.out.cell HL.out).trans (HCC.out 2 _ rfl)
 have p3:w1.cell? ⟨b,o+3,none⟩=some (.slice va3 x.zQ.length vc3):=(HB1.out.cell HL.out).trans (HCC.out 3 _ rfl)
 have p4:w1.cell? ⟨b,o+4,none⟩=some (.slice va4 x.zP.length vc4):=(HB1.out.cell HL.out).trans (HCC.out 4 _ rfl)
 have p5:w1.cell? ⟨b,o+5,none⟩=some (.slice va5 x.zG.zC.length vc5):=(HB1.out.cell HL.out).trans (HCC.out 5 _ rfl)
 have lb:b<w1.heap.size:=lL HL.out HB1.out.size
 go_wp2
 have HDr:=hide ((Below.refl w1.heap.size w1).drew);have HWd:=hide (show w1.cell? ⟨b,o,none⟩=some (.int .i64 x.zF)∧w1.cell? ⟨bo,oo+m1,none⟩=some vrow from⟨p0,HEO.out⟩)
 have HKP:=hide (fun(w':World) (hw:Below w1.heap.size w1 w')=>(⟨(hw.cell (World.block_lt_of_cell? _ _ HWd.out.1)).trans HWd.out.1,(hw.cell (World.block_lt_of_cell? _ _ HWd.out.2)).trans HWd.out.2⟩:w'.cell? ⟨b,o,none⟩=some (.int .i64 x.zF)∧w'.cell? ⟨bo,oo+m1,none⟩=some vrow))
 clear p0 p1 p2 p3 p4 p5 lb
 refine wE (fun w'=>w'.cell? ⟨b,o,none⟩=some (.int .i64 x.zF)∧w'.cell? ⟨bo,oo+m1,none⟩=some vrow) [] (by kernel_rfl) ?_ (fun hS0=>?_)
 ·exact HKP.out _ HDr.out
 generalize hwd:w1.drew=wd at *;clear hwd
 refine tN 0 hS0 ?_
 refine tN 1 hS0 ?_
 refine tN 2 hS0 ?_
 refine tN 3 hS0 ?_
 refine tN 4 hS0 ?_
 refine tN 5 hS0 ?_
 refine tN 6 hS0 ?_
 refine tN 7 hS0 ?_
 refine tN 8 hS0 ?_
 refine tN 10 hS0 ?_
 refine tN 11 hS0 ?_
 refine tN 12 hS0 ?_
 refine tN 13 hS0 ?_
 refine oN 9 (fun K hK=>?_)
 go_simp
 go_wp2_with (go_at_call 129;refine(c_l26Total x.zG b (o+5) _ HSO.out.mixer (show x.zG.good from HGD.out.2.2.2.2.2) (T.at_below HATM.out (yJ HB1.out HB1.out.size HDr.out))).mono ?_;rintro e w2 ⟨rfl,hb⟩)
 have HD2:=hide (yJ HDr.out HDr.out.size hb);clear hb
 refine uN hK ?_ (fun hS1=>?_)
 ·exact HKP.out _ HD2.out
 clear hK K hS0
 refine oN 14 (fun K hK=>?_)
 go_simp
 go_wp2_with (go_at_call 128;refine(c_l03Slice' _ row (vN x.zG) lenN _ HLEN.out (by omega) (by omega) (by omega) (RdI.below HRR.out HD2.out)).mono ?_;rintro e w3 ⟨v2,rfl,ho,hb⟩)
 have HO3:=hide (OwI.more ho (Nat.le_trans HB1.out.size HD2.out.size));have HD3:=hide (yJ HD2.out HD2.out.size hb);clear ho hb
 refine uN hK ?_ (fun hS2=>?_)
 ·exact HKP.out _ HD3.out
 clear hK K hS1
 refine oN 15 (fun K hK=>?_)
 go_simp
 refine uN hK ?_ (fun hS3=>?_)
 ·exact HKP.out _ HD3.out
 clear hK K hS2
 refine xY (by kernel_rfl) ?_
 clear hS3
 go_wp2
 go_ret
 exact⟨_,rfl,by rw[←HMX.out];exact HO3.out,yJ HB1.out HB1.out.size HD3.out⟩
end
section
open Go.RowKit
theorem c_copyPatch (x:xG) (cs:List Value) (w:World) (hs:x.small) (h:T.rds w x.fs cs):Calls Tryz.prog 113 #[.agg cs.toArray] w fun e w'=> ∃ v1 v2 v3 F,e= .returned (.agg #[.int .i64 x.zJ,v1,v2,v3])∧Nw w w' x.fs F [.int .i64 x.zJ,v1,v2,v3]:=by
 obtain⟨v1,v2,v3,rfl,h1,h2,h3⟩:=xG.yO h
 clear h
 have R1:=hide h1;obtain⟨va1,vc1,rfl,vl1,vm1,vx1⟩:=T.yN h1
 have HX1:=hide vx1;clear vx1 h1
 have R2:=hide h2;obtain⟨va2,vc2,rfl,vl2,vm2,vx2⟩:=T.yN h2
 have HX2:=hide vx2;clear vx2 h2
 have h3i:=T.yT.1 h3;obtain⟨va3,vc3,rfl,vl3,vm3,vx3⟩:=h3i.open_
 have R3:=hide h3i;have HX3:=hide vx3;clear vx3 h3 h3i
 have HB0:=hide (show Below w.heap.size w (w.alloc (.cells #[.int .i64 x.zJ,(.slice va1 x.zN.length vc1),(.slice va2 x.zB.length vc2),(.slice va3 x.zK.length vc3)] 108)) from(Below.refl _ _).alloc (Nat.le_refl _) _)
 have HK0:=hide (Bk.born w 108 #[.int .i64 x.zJ,(.slice va1 x.zN.length vc1),(.slice va2 x.zB.length vc2),(.slice va3 x.zK.length vc3)])
 have HS:=hide hs;clear hs
 have HBa:=hide (HB0.out.alloc (by simp) (.cells #[.int .i64 0,.slice none 0 0,.slice none 0 0,.slice none 0 0] 108))
 have HKa:=hide (HK0.out.alloc (.cells #[.int .i64 0,.slice none 0 0,.slice none 0 0,.slice none 0 0] 108));have HRa:=hide (Bk.born1' w (.cells #[.int .i64 x.zJ,(.slice va1 x.zN.length vc1),(.slice va2 x.zB.length vc2),(.slice va3 x.zK.length vc3)] 108) 108 #[.int .i64 0,.slice none 0 0,.slice none 0 0,.slice none 0 0])
 clear HB0 HK0
 go_enter Tryz.func113,Tryz.ntmps113
 go_wp2_with fail
 rename_i Q1 K1 hK1
 have REST: ∀ (g:Nat) (tA:Option Addr) (lA cA:Nat) (tB:Option Addr) (lB cB:Nat) (FR:List Nat) (u6 u7 u8 u9 u10 u11 u12 u13 u14:Value) (W:World),Bk W w.heap.size 108 #[.int .i64 x.zJ,(.slice va1 x.zN.length vc1),(.slice va2 x.zB.length vc2),(.slice va3 x.zK.length vc3)]→Bk W (w.heap.size+1) 108 #[.int .i64 0,.slice none 0 0,.slice none 0 0,.slice none 0 0]→Bk W g 108 #[.int .i64 x.zJ,.slice tA lA cA,.slice none 0 0,.slice tB lB cB]→T.ows W [T.sl 26 1 (x.zN.map (T.ints 2)),T.ints 2 x.zK] FR [.slice tA lA cA,.slice tB lB cB]→FR.Nodup→(∀ b ∈ FR,w.heap.size+2≤b)→g ∉ FR→w.heap.size+2≤g→Below w.heap.size w W→K1 { tmps:= #[.agg #[.int .i64 x.zJ,(.slice va1 x.zN.length vc1),(.slice va2 x.zB.length vc2),(.slice va3 x.zK.length vc3)],.pointer (some ⟨w.heap.size,0,none⟩),.pointer (some ⟨w.heap.size+1,0,none⟩),.pointer (some ⟨g,0,none⟩),undef,undef,u6,u7,u8,u9,u10,u11,u12,u13,u14,undef,undef,undef,undef,undef,undef,undef,undef,undef,undef,undef,undef,undef,undef,undef,undef],defers:= [] } W:=by
  intro g tA lA cA tB lB cB FR u6 u7 u8 u9 u10 u11 u12 u13 u14 W bk1 bk2 bk3 ow nd lo gf gl hbw
  refine hK1 _ _ ?_
  clear hK1 K1 HBa HKa HRa
  have HP:=hide bk1;have HR:=hide bk2;have HO:=hide bk3;have HOW:=hide ow;have HND:=hide nd;have HLO:=hide lo;have HGF:=hide gf;have HBW:=hide hbw
  have kp:=bk1.cell;clear bk1 bk2 bk3 ow nd lo gf hbw
  have ng1:w.heap.size≠g:=by omega
  have ng2:w.heap.size+1≠g:=by omega
  go_wp2
  go_loopw [18] (fun i wr=> ∃ (k:Nat) (v:Value) (F:List Nat),k≤x.zB.length∧i= .int .i64 (k:Int)∧Grow (w.heap.size+2) wr 167 4 ((x.zB.take k).map xJ.t) F v [T.sl 26 1 (x.zN.map (T.ints 2)),T.ints 2 x.zK] FR [.slice tA lA cA,.slice tB lB cB]∧g ∉ F∧Bk wr w.heap.size 108 #[.int .i64 x.zJ,(.slice va1 x.zN.length vc1),(.slice va2 x.zB.length vc2),(.slice va3 x.zK.length vc3)]∧Bk wr (w.heap.size+1) 108 #[.int .i64 0,.slice none 0 0,.slice none 0 0,.slice none 0 0]∧Bk wr g 108 #[.int .i64 x.zJ,.slice tA lA cA,v,.slice tB lB cB]∧Below w.heap.size w wr) (fun i _=>x.zB.length - (intOf i).toNat)
  case atStart=>exact⟨0,.slice none 0 0,[],Nat.zero_le _,rfl,by simpa using Grow.start HOW.out HND.out HLO.out 167 4,by simp,HP.out,HR.out,HO.out,HBW.out⟩
  case round=>
   obtain⟨k,v,F,hk,rfl,hG,hgF,b1,b2,b3,hb⟩:=hrel
   obtain⟨tN,lN,cN,rfl⟩:=hG.form
   have HG:=hide hG;have HF:=hide hgF;have HP1:=hide b1;have HR1:=hide b2;have HO1:=hide b3;have HB:=hide hb;clear hG hgF b1 b2 b3 hb
   have hsz:w.heap.size+2≤wr.heap.size:=by have:=HR1.out.lt;omega
   have hgr:g<wr.heap.size:=HO1.out.lt
   by_cases hlt:k<x.zB.length
   rotate_left
   ·obtain rfl:k=x.zB.length:=by omega
    have ko:=HO1.out.cell;have fo:=HO1.out.free;have kr:=HR1.out.cell;have fr:=HR1.out.free
    have hr1:w.heap.size+1<wr.heap.size:=by omega
    have nn1: ¬ g=w.heap.size+1:=by omega
    go_wp2
    obtain⟨F1,F3,o1,o3,nd,lo,gn⟩:=HG.out.split
    have hr2:=gn (w.heap.size+1) (fun hm=>by have:=HG.out.own.lo _ hm;omega) (fun hm=>by have:=HG.out.lo _ hm;omega)
    have o2:=HG.out.own.ow;rw[List.take_length] at o2
    have hO:=xG.ow_mk (x:=x) o1 o2 o3
    refine bodyPost_ret (v:= .agg #[.int .i64 x.zJ,.slice tA lA cA,(.slice tN lN cN),.slice tB lB cB]) (by simp[results,Tryz.results113,go_sem,ko,fo,kr,fr]) rfl ?_
    exact⟨_,_,_,_,rfl,T.yP (T.yP (T.yP (T.yP hO hr2 _ _) hr2 _ _) hr2 _ _) hr2 _ _,nd,fun b hb=>by have:=lo b hb;omega,(((HB.out.setCell (by simp) _).setCell (by simp) _).setCell (by simp) _).setCell (by simp) _⟩
   have hsy:=HS.out.2.1.2 _ (List.getElem_mem hlt)
   have hgk:=gE hlt
   obtain⟨b,off,cs1,hA,hb1,hcs,hcell⟩:=HX2.out k x.zB[k] hgk
   subst hA
   generalize x.zB[k]=y at *
   have HY:=hide hgk;have HSY:=hide hsy;clear hgk hsy
   obtain⟨u3,rfl,hRY3⟩:=xJ.yO (show T.rds _ _ _ by simpa only[xJ.t,T.rd] using hcs)
   have d0:=(HB.out.cell hb1).trans (hcell 0 (.int .i64 y.zD) rfl)
   have d1:=(HB.out.cell hb1).trans (hcell 1 (.int .i64 y.fA) rfl)
   have d2:=(HB.out.cell hb1).trans (hcell 2 (.int .i64 y.fB) rfl)
   have d3:=(HB.out.cell hb1).trans (hcell 3 (u3) rfl)
   rw[show off+(k * 4+0)=off+k * 4 by omega] at d0
   rw[show off+(k * 4+1)=off+k * 4+1 by omega] at d1
   rw[show off+(k * 4+2)=off+k * 4+2 by omega] at d2
   rw[show off+(k * 4+3)=off+k * 4+3 by omega] at d3
   have RY3:=hide (T.yF hRY3 HB.out);clear hRY3
   clear hcs hcell
   obtain⟨ua3,ul3,uc3,rfl⟩:=T.yV RY3.out
   have hq1:b<wr.heap.size:=lL hb1 HB.out.size
   have HXA:=hide (show Below wr.heap.size wr (wr.alloc (.cells #[.int .i64 y.zD,.int .i64 y.fA,.int .i64 y.fB,.slice ua3 ul3 uc3] 167)) from(Below.refl _ _).alloc (Nat.le_refl _) _)
   have HXB:=hide (Bk.born wr 167 #[.int .i64 y.zD,.int .i64 y.fA,.int .i64 y.fB,.slice ua3 ul3 uc3])
   go_wp2
   generalize wr.alloc (.cells #[.int .i64 y.zD,.int .i64 y.fA,.int .i64 y.fB,.slice ua3 ul3 uc3] 167)=W2 at *
   have ko:=(HO1.out.below HXA.out HO1.out.lt).cell;have kx:=HXB.out.cell
   refine wK (fun w'=>(∀ i,w'.cell? ⟨g,i,none⟩= #[.int .i64 x.zJ,.slice tA lA cA,(.slice tN lN cN),.slice tB lB cB][i]?)∧(∀ i,w'.cell? ⟨wr.heap.size,i,none⟩= #[.int .i64 y.zD,.int .i64 y.fA,.int .i64 y.fB,.slice ua3 ul3 uc3][i]?)) 7 (by kernel_rfl) ?_ (fun hS0=>?_)
   ·exact⟨ko,kx⟩
   refine tE 0 hS0 ?_
   refine tE 1 hS0 ?_
   refine tE 2 hS0 ?_
   refine oE 3 (fun K hK=>?_)
   go_simp
   go_wp2_with (go_at_call 167;refine(c_copyNode y _ _ HSY.out (xJ.rd_mk (T.yF RY3.out HXA.out.drew))).mono ?_;rintro e wC ⟨u,Fx,rfl,hN⟩;obtain⟨u3,G3,e1,e2,hu3⟩:=xJ.ow_open hN.ows;obtain⟨tU,lU,cU,rfl⟩:=T.yX (show T.ow _ _ _ [u] by simpa using(by injection e1 with _ e1;injection e1 with _ e1;injection e1 with _ e1;injection e1 with e1 _;subst e1;exact hu3));clear e1 e2 hu3;have HN:=hide hN;clear hN)
   have hbC:=undrew HN.out.below;have HBC:=hide hbC;have HGC:=hide ((HG.out.all HXA.out).all hbC);have HOC:=hide ((HO1.out.below HXA.out HO1.out.lt).below hbC (HO1.out.below HXA.out HO1.out.lt).lt);have HXC:=hide (HXB.out.below hbC HXB.out.lt)
   have HPC:=hide ((HP1.out.below HXA.out HP1.out.lt).below hbC (HP1.out.below HXA.out HP1.out.lt).lt);have HRC:=hide ((HR1.out.below HXA.out HR1.out.lt).below hbC (HR1.out.below HXA.out HR1.out.lt).lt);have HBCw:=hide (yJ (yJ HB.out HB.out.size HXA.out) (yJ HB.out HB.out.size HXA.out).size hbC);clear hbC
   refine hK.out _ _ ?_ (fun hS1=>?_)
   ·exact⟨HOC.out.cell,HXC.out.cell⟩
   clear hK K hS0
   have hsC:wr.heap.size≤wC.heap.size:=Nat.le_trans HXA.out.size HBC.out.size
   have HZA:=hide (show Below wC.heap.size wC (wC.alloc (.cells #[.int .i64 y.zD,.int .i64 y.fA,.int .i64 y.fB,.slice tU lU cU] 167)) from(Below.refl _ _).alloc (Nat.le_refl _) _)
   refine oE 4 (fun K hK=>?_)
   go_simp
   refine hK.out _ _ ?_ (fun hS2=>?_)
   ·exact⟨(HOC.out.alloc _).cell,(HXC.out.alloc _).cell⟩
   clear hK K hS1
   refine oE 5 (fun K hK=>?_)
   refine step1_T rfl _ _ _ rfl (w.heap.size+2) _ _ 4 48 Tryz.underlying106 info_NodeS rfl (by omega) rfl (HGC.out.all HZA.out).own rfl (Bk.born _ _ _) (x:=y.t) (T.ow_st (T.ows_all HN.out.ows HZA.out)) HN.out.nodup (fun b hb=>by have:=HN.out.lo b hb;have h2:=HXA.out.size;exact Nat.le_trans hsz (Nat.le_trans h2 this)) (fun b hb hb2=>by have h1:=HG.out.lt b hb;have h2:=HN.out.lo b hb2;have h3:wr.heap.size≤b:=Nat.le_trans HXA.out.size h2;omega) rfl (by rw[List.length_map,List.length_take];have:=HS.out.2.1.1;omega) (by rw[List.length_map,List.length_take];have:=HS.out.2.1.1;unfold maxLen;omega) (Nat.le_trans hsz (Nat.le_trans hsC HZA.out.size)) ?_
   intro v8 w8 F8 ho8 hg8 hv8
   obtain⟨t8,l8,c8,rfl⟩:=T.yX ho8.ow
   have HG8:=hide ((HGC.out.all HZA.out).app ho8 hg8 hv8 (fun b hb hb2=>by have h1:=HG.out.ltR b hb2;have h2:=HN.out.lo b hb;have h3:wr.heap.size≤b:=Nat.le_trans HXA.out.size h2;omega))
   have gC:g ∉ F:=HF.out
   have HO8:=hide ((HOC.out.alloc (.cells #[.int .i64 y.zD,.int .i64 y.fA,.int .i64 y.fB,.slice tU lU cU] 167)).far1 hg8 gC (HGC.out.all HZA.out).own)
   have HX8:=hide ((HXC.out.alloc (.cells #[.int .i64 y.zD,.int .i64 y.fA,.int .i64 y.fB,.slice tU lU cU] 167)).far1 hg8 (fun hm=>by have:=HG.out.lt _ hm;omega) (HGC.out.all HZA.out).own)
   have HP8:=hide ((HPC.out.alloc (.cells #[.int .i64 y.zD,.int .i64 y.fA,.int .i64 y.fB,.slice tU lU cU] 167)).far1 hg8 (fun hm=>by have:=HG.out.own.lo _ hm;omega) (HGC.out.all HZA.out).own)
   have HR8:=hide ((HRC.out.alloc (.cells #[.int .i64 y.zD,.int .i64 y.fA,.int .i64 y.fB,.slice tU lU cU] 167)).far1 hg8 (fun hm=>by have:=HG.out.own.lo _ hm;omega) (HGC.out.all HZA.out).own)
   have HB8:=hide (((HGC.out.all HZA.out).own.more (show w.heap.size≤w.heap.size+2 by omega)).below (HBCw.out.alloc HBCw.out.size _) (Nat.le_trans (Nat.le_trans (show w.heap.size≤wr.heap.size by omega) hsC) HZA.out.size) hg8)
   have HF8:=hide (Grow.out hv8 gC (fun hm=>by have h2:=HN.out.lo _ hm;have h3:wr.heap.size≤g:=Nat.le_trans HXA.out.size h2;omega) (lL hgr (Nat.le_trans hsC HZA.out.size)))
   clear ho8 hg8 hv8
   refine hK.out _ _ ?_ (fun hS3=>?_)
   ·exact⟨HO8.out.cell,HX8.out.cell⟩
   clear hK K hS2
   refine tE 6 hS3 ?_
   refine wJ (o:=_) (by kernel_rfl) rfl (by kernel_rfl) ?_
   have fo8:=HO8.out.free;have co8:=HO8.out.cell;have lo8:=HO8.out.lt
   go_wp2
   go_roundw
   case rel=>exact⟨k+1,.slice t8 l8 c8,F8,by omega,by go_num,(by rw[xQ HY.out,List.map_append];exact HG8.out.far HF8.out HGF.out _ _),HF8.out,HP8.out.far ng1 _,HR8.out.far ng2 _,(by have:=HO8.out.set_ 2 (.slice t8 l8 c8);simpa using this),HB8.out.setCell (by simp;omega) _⟩
   case measure=>simp[intOf];omega
 have HE2:=hide (show ((w.alloc (.cells #[.int .i64 x.zJ,(.slice va1 x.zN.length vc1),(.slice va2 x.zB.length vc2),(.slice va3 x.zK.length vc3)] 108)).alloc (.cells #[.int .i64 0,.slice none 0 0,.slice none 0 0,.slice none 0 0] 108)).heap.size=w.heap.size+1+1 by simp)
 go_region_held3 (fun w'=> ∀ i,w'.cell? ⟨w.heap.size,i,none⟩= #[.int .i64 x.zJ,(.slice va1 x.zN.length vc1),(.slice va2 x.zB.length vc2),(.slice va3 x.zK.length vc3)][i]?) (first|with_reducible exact((((KB.out.far (by first|with_reducible exact Nat.ne_of_lt KA.out.lt|(simp;done)|(simp;omega)) _).far (by first|with_reducible exact Nat.ne_of_lt KA.out.lt|(simp;done)|(simp;omega)) _).far (by first|with_reducible exact Nat.ne_of_lt KA.out.lt|(simp;done)|(simp;omega)) _).far (by first|with_reducible exact Nat.ne_of_lt KA.out.lt|(simp;done)|(simp;omega)) _).cell|with_reducible exact(KB.out.alloc _).cell|with_reducible exact KB.out.cell|with_reducible exact(KA.out.alloc _).cell|with_reducible exact KA.out.cell|exact HKa.out.cell|exact(HKa.out.alloc _).cell) (first|(go_at_call 111;refine(c_clones _ x.zN _ HS.out.1 (T.yF R1.out (by first|with_reducible exact HBa.out|with_reducible exact HBa.out.drew|with_reducible exact below_drewN HBa.out _|with_reducible exact HBa.out.alloc so _|with_reducible exact(HBa.out.alloc so _).drew|with_reducible exact(HBa.out.drew).alloc so _|with_reducible exact below_drewN (HBa.out.alloc so _) _|with_reducible exact(below_drewN HBa.out _).alloc so _))).mono ?_;rintro e wA ⟨vA,FA,rfl,hoA,hbA⟩;obtain⟨tA,lA,cA,rfl⟩:=T.yX hoA.ow;have OA:=hide hoA;have CA:=hide (show Below ((w.alloc (.cells #[.int .i64 x.zJ,(.slice va1 x.zN.length vc1),(.slice va2 x.zB.length vc2),(.slice va3 x.zK.length vc3)] 108)).alloc (.cells #[.int .i64 0,.slice none 0 0,.slice none 0 0,.slice none 0 0] 108)).heap.size ((w.alloc (.cells #[.int .i64 x.zJ,(.slice va1 x.zN.length vc1),(.slice va2 x.zB.length vc2),(.slice va3 x.zK.length vc3)] 108)).alloc (.cells #[.int .i64 0,.slice none 0 0,.slice none 0 0,.slice none 0 0] 108)) wA from(by first|with_reducible exact hbA|with_reducible exact undrew hbA|with_reducible exact wM hbA|with_reducible exact yM hbA|with_reducible exact undrew (yM hbA)|with_reducible exact yM (undrew hbA)|with_reducible exact wM (yM hbA)|with_reducible exact yM (wM hbA)));have KA:=hide (HKa.out.below CA.out HKa.out.lt);have RA:=hide (HRa.out.below CA.out HRa.out.lt);(try ((first|have gA:=Bk.below (Bk.born _ _ _) hbA (by simp)|have gA:=Bk.below (Bk.drew (Bk.born _ _ _)) hbA (by simp));rw[HE2.out] at gA;have GA:=hide gA;clear gA;have ga:=GA.out.cell;have gaf:=GA.out.free));clear hoA hbA)|(go_at_call 112;refine(c_clone _ x.zK _ (Rd.below R3.out (yJ HBa.out HBa.out.size (by first|with_reducible exact CA.out|with_reducible exact CA.out.drew|with_reducible exact below_drewN CA.out _|with_reducible exact CA.out.alloc (CA.out.size) _|with_reducible exact(CA.out.drew).alloc (CA.out.size) _|with_reducible exact(CA.out.alloc (CA.out.size) _).drew|with_reducible exact below_drewN (CA.out.alloc (CA.out.size) _) _))) HS.out.2.2).mono ?_;rintro e wB ⟨vB,rfl,hoB,hbB⟩;obtain⟨tB,cB,rfl,-,-,-⟩:=hoB.rd.open_;have OB:=hide (Nv.ints hoB hbB);have CB:=hide (show Below wA.heap.size wA wB from(by first|with_reducible exact hbB|with_reducible exact undrew hbB|with_reducible exact wM hbB|with_reducible exact yM hbB|with_reducible exact undrew (yM hbB)|with_reducible exact yM (undrew hbB)|with_reducible exact yM (wM hbB)));have KB:=hide (KA.out.below CB.out KA.out.lt);have RB:=hide (RA.out.below CB.out RA.out.lt);(try (have GB:=hide (Bk.below (Bk.born _ _ _) hbB (by simp));have gb:=GB.out.cell;have gbf:=GB.out.free));(try (have GC:=hide (GA.out.below CB.out GA.out.lt);have gc:=GC.out.cell;have gcf:=GC.out.free));clear hoB hbB))
 ·-- the alloc comes last
  have ow:T.ows wB [T.sl 26 1 (x.zN.map (T.ints 2)),T.ints 2 x.zK] (FA++(_++ [])) [.slice tA lA cA,.slice tB x.zK.length cB]:=T.c_ol (T.ow_all OA.out.ow CB.out) (T.c_ol OB.out.ow T.c_oe)
  have s1:=CA.out.size;have s2:=CB.out.size;rw[HE2.out] at s1
  have la: ∀ b ∈ FA,w.heap.size+2≤b:=fun b hb=>by have h1:=OA.out.lo b hb;(try simp at h1);omega
  have ta:=OA.out.lt;have lb:=OB.out.lo;have tb:=OB.out.lt
  have hwb:Below w.heap.size w wB:=yJ (yJ HBa.out HBa.out.size CA.out) (yJ HBa.out HBa.out.size CA.out).size CB.out
  have nd:(FA++(_++ [])).Nodup:=uJ OA.out.nodup (by rw[List.append_nil];exact OB.out.nodup) (fun b hb hm=>by rw[List.append_nil] at hm;have h1:=ta b hb;have h2:=lb b hm;(try simp at h2);omega)
  have lo: ∀ b ∈ FA++(_++ []),w.heap.size+2≤b:=fun b hb=>by rw[List.append_nil] at hb;rcases List.mem_append.1 hb with h|h;(· exact la b h);(· have h2:=lb b h;(try simp at h2);omega)
  exact REST wB.heap.size _ _ _ _ _ _ _ _ _ _ _ _ _ _ _ _ _ (KB.out.alloc _) (RB.out.alloc _) (Bk.born _ _ _) (T.ows_all ow ((Below.refl _ _).alloc (Nat.le_refl _) _)) nd lo (fun hm=>by rw[List.append_nil] at hm;rcases List.mem_append.1 hm with h|h;(· have h1:=ta _ h;have h2:=OA.out.lo _ h;(try simp at h2);omega);(· have h1:=tb _ h;have h2:=lb _ h;(try simp at h2);omega)) (by omega) (hwb.alloc hwb.size _)
 ·
  have ow:T.ows wB [T.sl 26 1 (x.zN.map (T.ints 2)),T.ints 2 x.zK] (FA++(_++ [])) [.slice tA lA cA,.slice tB x.zK.length cB]:=T.c_ol (T.ow_all OA.out.ow CB.out) (T.c_ol OB.out.ow T.c_oe)
  have s1:=CA.out.size;have s2:=CB.out.size;rw[HE2.out] at s1
  have la: ∀ b ∈ FA,w.heap.size+2≤b:=fun b hb=>by have h1:=OA.out.lo b hb;(try simp at h1);omega
  have ta:=OA.out.lt;have lb:=OB.out.lo;have tb:=OB.out.lt
  have hwb:Below w.heap.size w wB:=yJ (yJ HBa.out HBa.out.size CA.out) (yJ HBa.out HBa.out.size CA.out).size CB.out
  have nd:(FA++(_++ [])).Nodup:=uJ OA.out.nodup (by rw[List.append_nil];exact OB.out.nodup) (fun b hb hm=>by rw[List.append_nil] at hm;have h1:=ta b hb;have h2:=lb b hm;(try simp at h2);omega)
  have lo: ∀ b ∈ FA++(_++ []),w.heap.size+2≤b:=fun b hb=>by rw[List.append_nil] at hb;rcases List.mem_append.1 hb with h|h;(· exact la b h);(· have h2:=lb b h;(try simp at h2);omega)
  have g1:w.heap.size≠wA.heap.size:=by omega
  have g2:w.heap.size+1≠wA.heap.size:=by omega
  have gf:wA.heap.size ∉ FA++(_++ []):=(fun hm=>by rw[List.append_nil] at hm;rcases List.mem_append.1 hm with h|h;(· have h1:=ta _ h;have h2:=OA.out.lo _ h;(try simp at h2);omega);(· have h1:=tb _ h;have h2:=lb _ h;(try simp at h2);omega))
  have gl:w.heap.size≤wA.heap.size:=by omega
  exact REST (wA.heap.size) _ _ _ _ _ _ _ _ _ _ _ _ _ _ _ _ _ ((((KB.out.far g1 _).far g1 _).far g1 _).far g1 _) ((((RB.out.far g2 _).far g2 _).far g2 _).far g2 _) ((((GB.out.set_ _ _).set_ _ _).set_ _ _).set_ _ _) (T.yP (T.yP (T.yP (T.yP ow gf _ _) gf _ _) gf _ _) gf _ _) nd lo gf (by omega) ((((hwb.setCell gl _).setCell gl _).setCell gl _).setCell gl _)
 ·
  have ow:T.ows wB [T.sl 26 1 (x.zN.map (T.ints 2)),T.ints 2 x.zK] (FA++(_++ [])) [.slice tA lA cA,.slice tB x.zK.length cB]:=T.c_ol (T.ow_all OA.out.ow CB.out) (T.c_ol OB.out.ow T.c_oe)
  have s1:=CA.out.size;have s2:=CB.out.size;rw[HE2.out] at s1
  have la: ∀ b ∈ FA,w.heap.size+2≤b:=fun b hb=>by have h1:=OA.out.lo b hb;(try simp at h1);omega
  have ta:=OA.out.lt;have lb:=OB.out.lo;have tb:=OB.out.lt
  have hwb:Below w.heap.size w wB:=yJ (yJ HBa.out HBa.out.size CA.out) (yJ HBa.out HBa.out.size CA.out).size CB.out
  have nd:(FA++(_++ [])).Nodup:=uJ OA.out.nodup (by rw[List.append_nil];exact OB.out.nodup) (fun b hb hm=>by rw[List.append_nil] at hm;have h1:=ta b hb;have h2:=lb b hm;(try simp at h2);omega)
  have lo: ∀ b ∈ FA++(_++ []),w.heap.size+2≤b:=fun b hb=>by rw[List.append_nil] at hb;rcases List.mem_append.1 hb with h|h;(· exact la b h);(· have h2:=lb b h;(try simp at h2);omega)
  have s3:=GA.out.lt
  have g1:w.heap.size≠(w.heap.size+1+1):=by omega
  have g2:w.heap.size+1≠(w.heap.size+1+1):=by omega
  have gf:(w.heap.size+1+1) ∉ FA++(_++ []):=(fun hm=>by rw[List.append_nil] at hm;rcases List.mem_append.1 hm with h|h;(· have h1:=ta _ h;have h2:=OA.out.lo _ h;(try simp at h2);omega);(· have h1:=tb _ h;have h2:=lb _ h;(try simp at h2);omega))
  have gl:w.heap.size≤(w.heap.size+1+1):=by omega
  exact REST ((w.heap.size+1+1)) _ _ _ _ _ _ _ _ _ _ _ _ _ _ _ _ _ ((((KB.out.far g1 _).far g1 _).far g1 _).far g1 _) ((((RB.out.far g2 _).far g2 _).far g2 _).far g2 _) ((((GC.out.set_ _ _).set_ _ _).set_ _ _).set_ _ _) (T.yP (T.yP (T.yP (T.yP ow gf _ _) gf _ _) gf _ _) gf _ _) nd lo gf (by omega) ((((hwb.setCell gl _).setCell gl _).setCell gl _).setCell gl _)
end
section
open Go.RowKit
/-- Data that has no slices in it reads the same in every world and owns nothing. -/
def T.flat (w:World) (x:T):Prop:= ∀ w' cs,T.rd w' x cs→T.ow w x [] cs
theorem xL.flat (w:World) (x:xL):T.flat w x.t:=fun w' cs h=>by
 simp only[xL.t,T.rd] at h
 obtain rfl:=xL.yO h
 exact T.ow_st xL.ow_mk
theorem xM.flat (w:World) (x:xM):T.flat w x.t:=fun w' cs h=>by
 simp only[xM.t,T.rd] at h
 obtain rfl:=xM.yO h
 exact T.ow_st xM.ow_mk
theorem T.ows_flat {w w':World} : ∀ {xs:List T} {cs:List Value},(∀ x ∈ xs,T.flat w x)→T.rds w' xs cs→T.ows w xs [] cs
 | [],cs,_,h=>by simp only[T.rds] at h;subst h;exact T.c_oe
 |x :: r,cs,hf,h=>by
  simp only[T.rds] at h
  obtain⟨c1,c2,rfl,h1,h2⟩:=h
  simp only[T.ows]
  exact⟨[],[],c1,c2,rfl,rfl,hf x (by simp) w' c1 h1,T.ows_flat (fun y hy=>hf y (by simp[hy])) h2⟩
theorem T.ows_flat_map {w w':World} {α:Type} {tr:α→T} {xs:List α} {cs:List Value} (hf: ∀ x,T.flat w (tr x)) (h:T.rds w' (xs.map tr) cs):T.ows w (xs.map tr) [] cs:=
 T.ows_flat (fun x hx=>by obtain⟨y,_,rfl⟩:=List.mem_map.1 hx;exact hf y) h
theorem T.rd_row {w:World} {E:TypeId} {sz:Nat} {xs:List T} {v:Value} (h:T.rd w (.sl E sz xs) [v]): ∃ es,Rd w v sz xs.length es∧T.rds w xs es:=by
 simp only[T.rd] at h
 obtain⟨v',es,hv,_,h1,h2⟩:=h
 obtain rfl:v=v':=by simpa using hv
 exact⟨es,h1,h2⟩
/-- A struct in blocks of its own, from B on. -/
structure Nx (B:Nat) (w:World) (xs:List T) (F:List Nat) (cs:List Value):Prop where
 ows:T.ows w xs F cs
 nodup:F.Nodup
 lo: ∀ b ∈ F,B≤b
theorem Nx.all {B:Nat} {w w':World} {xs:List T} {F:List Nat} {cs:List Value} (h:Nx B w xs F cs) (hb:Below w.heap.size w w'):Nx B w' xs F cs:=⟨T.ows_all h.ows hb,h.nodup,h.lo⟩
theorem Nx.of_nw {B:Nat} {w w':World} {xs:List T} {F:List Nat} {cs:List Value} (h:Nw w w' xs F cs) (hB:B≤w.heap.size):Nx B w' xs F cs:=⟨h.ows,h.nodup,fun b hb=>Nat.le_trans hB (h.lo b hb)⟩
theorem perm_of_count {A B:List Nat} (h: ∀ a,A.count a=B.count a):A.Perm B:=List.perm_iff_count.2 h
theorem Grow.split4 {B:Nat} {w:World} {E:TypeId} {sz:Nat} {xs:List T} {F FR:List Nat} {v:Value} {E1 E2 E3 E4:TypeId} {s1 s2 s3 s4:Nat} {l1 l2 l3 l4:List T} {v1 v2 v3 v4:Value}
  (h:Grow B w E sz xs F v [.sl E1 s1 l1,.sl E3 s3 l3,.sl E2 s2 l2,.sl E4 s4 l4] FR [v1,v3,v2,v4]):
  ∃ F1 F2 F3 F4,T.ow w (.sl E1 s1 l1) F1 [v1]∧T.ow w (.sl E2 s2 l2) F2 [v2]∧T.ow w (.sl E3 s3 l3) F3 [v3]∧T.ow w (.sl E4 s4 l4) F4 [v4]∧(F1++(F2++(F3++(F4++(F++ []))))).Nodup∧
   (∀ b ∈ F1++(F2++(F3++(F4++(F++ [])))),B≤b)∧ ∀ g,g ∉ F→g ∉ FR→g ∉ F1++(F2++(F3++(F4++(F++ [])))):=by
 obtain⟨u1,r1,F1,G1,rfl,e1,o1,h1⟩:=T.ows_sl.1 h.rest
 obtain⟨u3,r3,F3,G3,rfl,e3,o3,h3⟩:=T.ows_sl.1 h1
 obtain⟨u2,r2,F2,G2,rfl,e2,o2,h2⟩:=T.ows_sl.1 h3
 obtain⟨u4,r4,F4,G4,rfl,e4,o4,h4⟩:=T.ows_sl.1 h2
 obtain⟨rfl,rfl⟩:=T.ows_nil.1 h4
 subst e4 e2 e3
 injection e1 with e1 e
 injection e with e3 e
 injection e with e2 e
 injection e with e4 _
 subst e1 e2 e3 e4
 have hp:(F1++(F2++(F3++(F4++(F++ []))))).Perm (F++(F1++(F3++(F2++(F4++ []))))):=perm_of_count fun a=>by
  simp only[List.count_append,List.count_nil];omega
 have hn:(F++(F1++(F3++(F2++(F4++ []))))).Nodup:=uJ h.own.nodup h.nd h.dj
 refine⟨F1,F2,F3,F4,o1,o2,o3,o4,hp.nodup_iff.2 hn,fun b hb=>?_,fun g h1 h2 hg=>?_⟩
 ·rcases List.mem_append.1 (hp.mem_iff.1 hb) with hb|hb
  ·exact h.own.lo b hb
  ·exact h.lo b hb
 ·rcases List.mem_append.1 (hp.mem_iff.1 hg) with hg|hg
  ·exact h1 hg
  ·exact h2 hg
theorem xG.sl3 {w:World} {x:xG} {p1 p2 p3:Value} (h:T.rds w x.fs [.int .i64 x.zJ,p1,p2,p3]):(∃ A l c,p1= .slice A l c)∧(∃ A l c,p2= .slice A l c)∧ ∃ A l c,p3= .slice A l c:=by
 obtain⟨v1,v2,v3,e,h1,h2,h3⟩:=xG.yO h
 injection e with _ e
 injection e with e1 e
 injection e with e2 e
 injection e with e3 _
 subst e1 e2 e3
 exact⟨T.yV h1,T.yV h2,T.yV h3⟩
/-- A row of flat data, the call's own. -/
theorem Own.of_flat {B:Nat} {w w':World} {E:TypeId} {sz n:Nat} {v:Value} {α:Type} {tr:α→T} {xs:List α} {es:List Value} (hf: ∀ x,T.flat w (tr x)) (hw: ∀ x,T.wide (tr x)=sz)
  (h:w.ownsRow B E sz v n es) (hr:T.rds w' (xs.map tr) es) (hn:n=xs.length):Own B w (.sl E sz (xs.map tr)) v.ownBlock.toList v:=by
 refine⟨?_,by cases v.ownBlock<;>simp,fun b hb=>(h.lt b (by simpa using hb)).1⟩
 simp only[T.ow]
 refine⟨v,es,[],rfl,by simp,?_,by rw[List.length_map,←hn];exact wH h (Nat.zero_le _),T.ows_flat_map hf hr⟩
 intro x hx
 obtain⟨y,_,rfl⟩:=List.mem_map.1 hx
 exact hw y
end
end Go.Proofs.YtoibekfhepnedaaGreat
