/- Contracts: the mix of a session, both sides. -/
import Derived.Test.YtoibekfhepnedaaGreatQBlExactSoundCache
import Derived.Test.YtoibekfhepnedaaGreatQBpExactSoundCache
set_option linter.unusedVariables false
set_option linter.unusedSimpArgs false
set_option maxHeartbeats 8000000
set_option maxRecDepth 100000
namespace Go.Proofs.YtoibekfhepnedaaGreat
open Go.RowKit
theorem c_slice' (v:Value) (xs:List Int) (f:Int) (n:Nat) (w:World) {N:Int} (hN:N=(n:Int)) (h0:0≤f) (h1:f≤1048576) (hn:n≤1048576) (hr:RdI w v xs):Calls Tryz.prog 133 #[v,.int .i64 f,.int .i64 N] w fun e w'=> ∃ v',e= .returned v'∧OwI 2 w' w.heap.size v' (cutL xs f n)∧Below w.heap.size w w':=by
 subst hN;exact c_slice v xs f n w h0 h1 hn hr
theorem c_l03Slice' (v:Value) (xs:List Int) (f:Int) (n:Nat) (w:World) {N:Int} (hN:N=(n:Int)) (h0: -1048576≤f) (h1:f≤1048576) (hn:n≤1048576) (hr:RdI w v xs):Calls Tryz.prog 128 #[v,.int .i64 f,.int .i64 N] w fun e w'=> ∃ v',e= .returned v'∧OwI 2 w' w.heap.size v' (cutL xs f n)∧Below w.heap.size w w':=by
 subst hN;exact c_l03Slice v xs f n w h0 h1 hn hr
theorem c_mix (x:GSession) (cs:List Value) (w:World) (hS:SessionOk x) (hg:x.good) (h:T.rds w x.fs cs):Calls Tryz.prog 61 #[.agg cs.toArray] w fun e w'=> ∃ v,e= .returned v∧OwI 2 w' w.heap.size v (mixF x)∧Below w.heap.size w w':=by
 obtain⟨v1,v2,v3,v4,v5,rfl,h1,h2,h3,h4,h5⟩:=GSession.yN h
 clear h
 have R1:=hide h1;obtain⟨va1,vc1,rfl,vl1,vm1,vx1⟩:=T.yM h1
 have HX1:=hide vx1;clear vx1 h1
 have R2:=hide h2;obtain⟨va2,vc2,rfl,vl2,vm2,vx2⟩:=T.yM h2
 have HX2:=hide vx2;clear vx2 h2
 have h3i:=T.yR.1 h3;obtain⟨va3,vc3,rfl,vl3,vm3,vx3⟩:=h3i.open_
 have R3:=hide h3i;have HX3:=hide vx3;clear vx3 h3 h3i
 have R4:=hide h4;obtain⟨va4,vc4,rfl,vl4,vm4,vx4⟩:=T.yM h4
 have HX4:=hide vx4;clear vx4 h4
 have R5:=hide h5;obtain⟨va5,vc5,rfl,vl5,vm5,vx5⟩:=T.yM h5
 have HX5:=hide vx5;clear vx5 h5
 have HB0:=hide (show Below w.heap.size w (w.alloc (.cells #[.int .i64 x.zG,(.slice va1 x.zN.length vc1),(.slice va2 x.zO.length vc2),(.slice va3 x.zS.length vc3),(.slice va4 x.zP.length vc4),(.slice va5 x.zF.zC.length vc5)] 32)) from(Below.refl _ _).alloc (Nat.le_refl _) _)
 have HK0:=hide (Bk.born w 32 #[.int .i64 x.zG,(.slice va1 x.zN.length vc1),(.slice va2 x.zO.length vc2),(.slice va3 x.zS.length vc3),(.slice va4 x.zP.length vc4),(.slice va5 x.zF.zC.length vc5)])
 have HSO:=hide hS;have hn8:x.zF.zC.length≤8:=hS.mixer.few;have hn1:1≤x.zF.zC.length:=hS.mixer.some_;have htot:=total_ok hS.mixer;have hle:=yZ.1 hS.length;have HGD:=hide hg
 obtain⟨lenN,hlen⟩: ∃ q:Nat,x.zG=(q:Int):=⟨x.zG.toNat,by omega⟩
 have hl0:lenN≤1000:=by omega
 obtain⟨row,hrow,hrowd,-,-⟩:=(outsF_ok hS).get (show x.zF.zC.length - 1<x.zF.zC.length by omega)
 have HMX:=hide (show cutL row (totalF x.zF) lenN=mixF x by unfold mixF;rw[hrowd,hlen,Int.toNat_natCast])
 have hol:=(outsF_ok hS).len;have HRY:=hide (ready_last hS.mixer);have hryl:=length_readyF x.zF
 have HROW:=hide hrow;have HLEN:=hide hlen;clear hS hg hrow hrowd hlen
 obtain⟨m1,hm1⟩: ∃ m1:Nat,x.zF.zC.length - 1=m1:=⟨_,rfl⟩
 rw[hm1] at HROW HRY
 have hm2:x.zF.zC.length=m1+1:=by omega
 have hwm:IntKind.i64.wrap ((x.zF.zC.length:Int) - 1)=(m1:Int):=by rw[IntWalk.i64_in _ (by omega)];omega
 have HM2:=hide hm2;have hm3:m1<x.zF.zC.length:=by omega
 clear hm1 hm2
 go_enter Tryz.func61,Tryz.ntmps61
 go_wp2_with fail
 refine(c_strips x _ _ HSO.out HGD.out (GSession.rd_mk (T.yE R1.out HB0.out) (T.yE R2.out HB0.out) (T.yR.2 (Rd.below R3.out HB0.out)) (T.yE R4.out HB0.out) (T.yE R5.out HB0.out))).mono ?_;rintro e w1 ⟨vo,vr,rfl,ho,hr,hd⟩
 have hb:Below (w.alloc (.cells #[.int .i64 x.zG,(.slice va1 x.zN.length vc1),(.slice va2 x.zO.length vc2),(.slice va3 x.zS.length vc3),(.slice va4 x.zP.length vc4),(.slice va5 x.zF.zC.length vc5)] 32)).heap.size (w.alloc (.cells #[.int .i64 x.zG,(.slice va1 x.zN.length vc1),(.slice va2 x.zO.length vc2),(.slice va3 x.zS.length vc3),(.slice va4 x.zP.length vc4),(.slice va5 x.zF.zC.length vc5)] 32)) w1:=by first|exact hd|exact hd.to_below _|exact hd ▸ Below.refl _ _
 have HK1:=hide (HK0.out.below hb HK0.out.lt);have HB1:=hide (yI HB0.out HB0.out.size hb);clear hb hd;have ka:=HK1.out.cell;have la:=HK1.out.lt
 obtain⟨oA,ocap,rfl,-,-,ox⟩:=T.yM ho
 rw[hol] at *
 obtain⟨bo,oo,cso,hAo,hbo,hcso,hcello⟩:=ox _ _ HROW.out
 subst hAo
 obtain⟨vrow,rfl⟩:=T.rd_one hcso
 have eo:=hcello 0 vrow rfl;rw[Nat.mul_one,Nat.add_zero] at eo
 have HRR:=hide (T.yR.1 hcso);have HEO:=hide eo;clear hcso hcello eo ox ho
 obtain⟨bR,oR,cR,rfl,-,-,hbR,hxR⟩:=rdI_cells hr (by omega)
 rw[hryl] at *
 have HER:=hide (hxR _ _ HRY.out);clear hxR hr
 go_wp2
 have HDr:=hide ((Below.refl w1.heap.size w1).drew);have HWd:=hide (show w1.cell? ⟨w.heap.size,0,none⟩=some (.int .i64 x.zG)∧w1.cell? ⟨bo,oo+m1,none⟩=some vrow∧w1.cell? ⟨bR,oR+m1,none⟩=some (.int .i64 (totalF x.zF)) from⟨ka 0,HEO.out,HER.out⟩)
 have HKP:=hide (fun(w':World) (hw:Below w1.heap.size w1 w')=>(⟨(hw.cell (World.block_lt_of_cell? _ _ HWd.out.1)).trans HWd.out.1,(hw.cell (World.block_lt_of_cell? _ _ HWd.out.2.1)).trans HWd.out.2.1,(hw.cell (World.block_lt_of_cell? _ _ HWd.out.2.2)).trans HWd.out.2.2⟩:w'.cell? ⟨w.heap.size,0,none⟩=some (.int .i64 x.zG)∧w'.cell? ⟨bo,oo+m1,none⟩=some vrow∧w'.cell? ⟨bR,oR+m1,none⟩=some (.int .i64 (totalF x.zF))))
 clear ka la
 refine wp_region_N (fun w'=>w'.cell? ⟨w.heap.size,0,none⟩=some (.int .i64 x.zG)∧w'.cell? ⟨bo,oo+m1,none⟩=some vrow∧w'.cell? ⟨bR,oR+m1,none⟩=some (.int .i64 (totalF x.zF))) [] (by kernel_rfl) ?_ (fun hS0=>?_)
 ·exact HKP.out _ HDr.out
 generalize hwd:w1.drew=wd at *;clear hwd
 refine wpAnyN_takeL (i:=0) (oi:=_) (v:=?v15) (by kernel_rfl) (by kernel_rfl) rfl (by kernel_rfl) (by kernel_rfl) (by kernel_rfl) (fun _ _ _ h=>h) hS0 (by rfl) ?hy15 ?rest15
 case hy15=>(intro w hSw;(try dsimp only at hSw);first|(go_simp;done)|(go_simp;with_reducible rfl))
 try simp only[Act.put,List.setIfInBounds_toArray,List.set_cons_zero,List.set_cons_succ]
 refine wpAnyN_takeL (i:=1) (oi:=_) (v:=?v16) (by kernel_rfl) (by kernel_rfl) rfl (by kernel_rfl) (by kernel_rfl) (by kernel_rfl) (fun _ _ _ h=>h) hS0 (by rfl) ?hy16 ?rest16
 case hy16=>(intro w hSw;(try dsimp only at hSw);first|(go_simp;done)|(go_simp;with_reducible rfl))
 try simp only[Act.put,List.setIfInBounds_toArray,List.set_cons_zero,List.set_cons_succ]
 refine wpAnyN_takeL (i:=2) (oi:=_) (v:=?v17) (by kernel_rfl) (by kernel_rfl) rfl (by kernel_rfl) (by kernel_rfl) (by kernel_rfl) (fun _ _ _ h=>h) hS0 (by rfl) ?hy17 ?rest17
 case hy17=>(intro w hSw;(try dsimp only at hSw);first|(go_simp;done)|(go_simp;with_reducible rfl))
 try simp only[Act.put,List.setIfInBounds_toArray,List.set_cons_zero,List.set_cons_succ]
 refine wpAnyN_takeL (i:=3) (oi:=_) (v:=?v18) (by kernel_rfl) (by kernel_rfl) rfl (by kernel_rfl) (by kernel_rfl) (by kernel_rfl) (fun _ _ _ h=>h) hS0 (by rfl) ?hy18 ?rest18
 case hy18=>(intro w hSw;(try dsimp only at hSw);first|(go_simp;done)|(go_simp;with_reducible rfl))
 try simp only[Act.put,List.setIfInBounds_toArray,List.set_cons_zero,List.set_cons_succ]
 refine wpAnyN_takeL (i:=4) (oi:=_) (v:=?v19) (by kernel_rfl) (by kernel_rfl) rfl (by kernel_rfl) (by kernel_rfl) (by kernel_rfl) (fun _ _ _ h=>h) hS0 (by rfl) ?hy19 ?rest19
 case hy19=>(intro w hSw;(try dsimp only at hSw);first|(go_simp;done)|(go_simp;with_reducible rfl))
 try simp only[Act.put,List.setIfInBounds_toArray,List.set_cons_zero,List.set_cons_succ]
 refine wpAnyN_takeL (i:=5) (oi:=_) (v:=?v20) (by kernel_rfl) (by kernel_rfl) rfl (by kernel_rfl) (by kernel_rfl) (by kernel_rfl) (fun _ _ _ h=>h) hS0 (by rfl) ?hy20 ?rest20
 case hy20=>(intro w hSw;(try dsimp only at hSw);first|(go_simp;done)|(go_simp;with_reducible rfl))
 try simp only[Act.put,List.setIfInBounds_toArray,List.set_cons_zero,List.set_cons_succ]
 refine wpAnyN_takeL (i:=6) (oi:=_) (v:=?v21) (by kernel_rfl) (by kernel_rfl) rfl (by kernel_rfl) (by kernel_rfl) (by kernel_rfl) (fun _ _ _ h=>h) hS0 (by rfl) ?hy21 ?rest21
 case hy21=>(intro w hSw;(try dsimp only at hSw);first|(go_simp;done)|(go_simp;with_reducible rfl))
 try simp only[Act.put,List.setIfInBounds_toArray,List.set_cons_zero,List.set_cons_succ]
 refine wpAnyN_takeL (i:=7) (oi:=_) (v:=?v22) (by kernel_rfl) (by kernel_rfl) rfl (by kernel_rfl) (by kernel_rfl) (by kernel_rfl) (fun _ _ _ h=>h) hS0 (by rfl) ?hy22 ?rest22
 case hy22=>(intro w hSw;(try dsimp only at hSw);first|(go_simp;done)|(go_simp;with_reducible rfl))
 try simp only[Act.put,List.setIfInBounds_toArray,List.set_cons_zero,List.set_cons_succ]
 refine wpAnyN_takeL (i:=8) (oi:=_) (v:=?v23) (by kernel_rfl) (by kernel_rfl) rfl (by kernel_rfl) (by kernel_rfl) (by kernel_rfl) (fun _ _ _ h=>h) hS0 (by rfl) ?hy23 ?rest23
 case hy23=>(intro w hSw;(try dsimp only at hSw);first|(go_simp;done)|(go_simp;with_reducible rfl))
 try simp only[Act.put,List.setIfInBounds_toArray,List.set_cons_zero,List.set_cons_succ]
 refine wpAnyN_takeL (i:=9) (oi:=_) (v:=?v24) (by kernel_rfl) (by kernel_rfl) rfl (by kernel_rfl) (by kernel_rfl) (by kernel_rfl) (fun _ _ _ h=>h) hS0 (by rfl) ?hy24 ?rest24
 case hy24=>(intro w hSw;(try dsimp only at hSw);first|(go_simp;done)|(go_simp;with_reducible rfl))
 try simp only[Act.put,List.setIfInBounds_toArray,List.set_cons_zero,List.set_cons_succ]
 refine wpAnyN_one (i:=10) (o:=_) (by kernel_rfl) rfl (fun K hK=>?_)
 go_simp
 go_wp2_with (go_at_call 133;refine(c_slice' _ row (totalF x.zF) lenN _ HLEN.out htot.1 (by omega) (by omega) (RdI.below HRR.out HDr.out)).mono ?_;rintro e w2 ⟨v2,rfl,ho,hb⟩)
 have HO2:=hide (OwI.more ho (Nat.le_trans HB1.out.size HDr.out.size));have HD2:=hide (yI HDr.out HDr.out.size hb);clear ho hb
 refine hK.out _ _ ?_ (fun hS1=>?_)
 ·exact HKP.out _ HD2.out
 clear hK K hS0
 try simp only[Act.put,List.setIfInBounds_toArray,List.set_cons_zero,List.set_cons_succ]
 refine wpAnyN_one (i:=11) (o:=_) (by kernel_rfl) rfl (fun K hK=>?_)
 go_simp
 refine hK.out _ _ ?_ (fun hS2=>?_)
 ·exact HKP.out _ HD2.out
 clear hK K hS1
 try simp only[Act.put,List.setIfInBounds_toArray,List.set_cons_zero,List.set_cons_succ]
 refine wpAnyN_end (by kernel_rfl) ?_
 clear hS2
 go_wp2
 go_ret
 exact⟨_,rfl,by rw[←HMX.out];exact HO2.out,yI HB1.out HB1.out.size HD2.out⟩
theorem c_l27Mix (x:GSession) (b o:Nat) (w:World) (hS:SessionOk x) (hg:x.good) (h:T.at w x.fs b o):Calls Tryz.prog 55 #[.pointer (some ⟨b,o,none⟩)] w fun e w'=> ∃ v,e= .returned v∧OwI 2 w' w.heap.size v (mixF x)∧Below w.heap.size w w':=by
 have HAT:=hide h
 obtain⟨hlt0,cs,hr,hc⟩:=h
 obtain⟨v1,v2,v3,v4,v5,rfl,h1,h2,h3,h4,h5⟩:=GSession.yN hr
 clear hr
 have R1:=hide h1;obtain⟨va1,vc1,rfl,vl1,vm1,vx1⟩:=T.yM h1
 have HX1:=hide vx1;clear vx1 h1
 have R2:=hide h2;obtain⟨va2,vc2,rfl,vl2,vm2,vx2⟩:=T.yM h2
 have HX2:=hide vx2;clear vx2 h2
 have h3i:=T.yR.1 h3;obtain⟨va3,vc3,rfl,vl3,vm3,vx3⟩:=h3i.open_
 have R3:=hide h3i;have HX3:=hide vx3;clear vx3 h3 h3i
 have R4:=hide h4;obtain⟨va4,vc4,rfl,vl4,vm4,vx4⟩:=T.yM h4
 have HX4:=hide vx4;clear vx4 h4
 have R5:=hide h5;obtain⟨va5,vc5,rfl,vl5,vm5,vx5⟩:=T.yM h5
 have HX5:=hide vx5;clear vx5 h5
 have HL:=hide hlt0;have HCC:=hide hc;have HB0:=hide (Below.refl w.heap.size w);clear hlt0 hc
 have HSO:=hide hS;have hn8:x.zF.zC.length≤8:=hS.mixer.few;have hn1:1≤x.zF.zC.length:=hS.mixer.some_;have htot:=total_ok hS.mixer;have hle:=yZ.1 hS.length;have HGD:=hide hg
 obtain⟨lenN,hlen⟩: ∃ q:Nat,x.zG=(q:Int):=⟨x.zG.toNat,by omega⟩
 have hl0:lenN≤1000:=by omega
 obtain⟨row,hrow,hrowd,-,-⟩:=(outsF_ok hS).get (show x.zF.zC.length - 1<x.zF.zC.length by omega)
 have HMX:=hide (show cutL row (totalF x.zF) lenN=mixF x by unfold mixF;rw[hrowd,hlen,Int.toNat_natCast])
 have hol:=(outsF_ok hS).len;have HRY:=hide (ready_last hS.mixer);have hryl:=length_readyF x.zF
 have HROW:=hide hrow;have HLEN:=hide hlen;clear hS hg hrow hrowd hlen
 obtain⟨m1,hm1⟩: ∃ m1:Nat,x.zF.zC.length - 1=m1:=⟨_,rfl⟩
 rw[hm1] at HROW HRY
 have hm2:x.zF.zC.length=m1+1:=by omega
 have hwm:IntKind.i64.wrap ((x.zF.zC.length:Int) - 1)=(m1:Int):=by rw[IntWalk.i64_in _ (by omega)];omega
 have HM2:=hide hm2;have hm3:m1<x.zF.zC.length:=by omega
 clear hm1 hm2
 have HATM:=hide (show T.at w x.zF.fs b (o+5) from T.at_sub [.int .i64 x.zG,.slice va1 x.zN.length vc1,.slice va2 x.zO.length vc2,.slice va3 x.zS.length vc3,.slice va4 x.zP.length vc4] [.slice va5 x.zF.zC.length vc5] [] HL.out HCC.out (GMixer.rd_mk R5.out))
 have p0:w.cell? ⟨b,o,none⟩=some (.int .i64 x.zG):=(HB0.out.cell HL.out).trans (HCC.out 0 _ rfl)
 have p1:w.cell? ⟨b,o+1,none⟩=some (.slice va1 x.zN.length vc1):=(HB0.out.cell HL.out).trans (HCC.out 1 _ rfl)
 have p2:w.cell? ⟨b,o+2,none⟩=some (.slice va2 x.zO.length vc2):=(HB0.out.cell HL.out).trans (HCC.out 2 _ rfl)
 have p3:w.cell? ⟨b,o+3,none⟩=some (.slice va3 x.zS.length vc3):=(HB0.out.cell HL.out).trans (HCC.out 3 _ rfl)
 have p4:w.cell? ⟨b,o+4,none⟩=some (.slice va4 x.zP.length vc4):=(HB0.out.cell HL.out).trans (HCC.out 4 _ rfl)
 have p5:w.cell? ⟨b,o+5,none⟩=some (.slice va5 x.zF.zC.length vc5):=(HB0.out.cell HL.out).trans (HCC.out 5 _ rfl)
 have lb:b<w.heap.size:=Nat.lt_of_lt_of_le HL.out HB0.out.size
 go_enter Tryz.func55,Tryz.ntmps55
 go_wp2_with fail
 refine(c_l27Outputs x b o _ HSO.out HGD.out HAT.out).mono ?_;rintro e w1 ⟨vo,rfl,ho,hb⟩
 have HB1:=hide hb;clear hb p0 p1 p2 p3 p4 p5 lb
 obtain⟨oA,ocap,rfl,-,-,ox⟩:=T.yM ho
 rw[hol] at *
 obtain⟨bo,oo,cso,hAo,hbo,hcso,hcello⟩:=ox _ _ HROW.out
 subst hAo
 obtain⟨vrow,rfl⟩:=T.rd_one hcso
 have eo:=hcello 0 vrow rfl;rw[Nat.mul_one,Nat.add_zero] at eo
 have HRR:=hide (T.yR.1 hcso);have HEO:=hide eo;clear hcso hcello eo ox ho
 have p0:w1.cell? ⟨b,o,none⟩=some (.int .i64 x.zG):=(HB1.out.cell HL.out).trans (HCC.out 0 _ rfl)
 have p1:w1.cell? ⟨b,o+1,none⟩=some (.slice va1 x.zN.length vc1):=(HB1.out.cell HL.out).trans (HCC.out 1 _ rfl)
 have p2:w1.cell? ⟨b,o+2,none⟩=some (.slice va2 x.zO.length vc2):=(HB1.out.cell HL.out).trans (HCC.out 2 _ rfl)
 have p3:w1.cell? ⟨b,o+3,none⟩=some (.slice va3 x.zS.length vc3):=(HB1.out.cell HL.out).trans (HCC.out 3 _ rfl)
 have p4:w1.cell? ⟨b,o+4,none⟩=some (.slice va4 x.zP.length vc4):=(HB1.out.cell HL.out).trans (HCC.out 4 _ rfl)
 have p5:w1.cell? ⟨b,o+5,none⟩=some (.slice va5 x.zF.zC.length vc5):=(HB1.out.cell HL.out).trans (HCC.out 5 _ rfl)
 have lb:b<w1.heap.size:=Nat.lt_of_lt_of_le HL.out HB1.out.size
 go_wp2
 have HDr:=hide ((Below.refl w1.heap.size w1).drew);have HWd:=hide (show w1.cell? ⟨b,o,none⟩=some (.int .i64 x.zG)∧w1.cell? ⟨bo,oo+m1,none⟩=some vrow from⟨p0,HEO.out⟩)
 have HKP:=hide (fun(w':World) (hw:Below w1.heap.size w1 w')=>(⟨(hw.cell (World.block_lt_of_cell? _ _ HWd.out.1)).trans HWd.out.1,(hw.cell (World.block_lt_of_cell? _ _ HWd.out.2)).trans HWd.out.2⟩:w'.cell? ⟨b,o,none⟩=some (.int .i64 x.zG)∧w'.cell? ⟨bo,oo+m1,none⟩=some vrow))
 clear p0 p1 p2 p3 p4 p5 lb
 refine wp_region_N (fun w'=>w'.cell? ⟨b,o,none⟩=some (.int .i64 x.zG)∧w'.cell? ⟨bo,oo+m1,none⟩=some vrow) [] (by kernel_rfl) ?_ (fun hS0=>?_)
 ·exact HKP.out _ HDr.out
 generalize hwd:w1.drew=wd at *;clear hwd
 refine wpAnyN_takeL (i:=0) (oi:=_) (v:=?v25) (by kernel_rfl) (by kernel_rfl) rfl (by kernel_rfl) (by kernel_rfl) (by kernel_rfl) (fun _ _ _ h=>h) hS0 (by rfl) ?hy25 ?rest25
 case hy25=>(intro w hSw;(try dsimp only at hSw);first|(go_simp;done)|(go_simp;with_reducible rfl))
 try simp only[Act.put,List.setIfInBounds_toArray,List.set_cons_zero,List.set_cons_succ]
 refine wpAnyN_takeL (i:=1) (oi:=_) (v:=?v26) (by kernel_rfl) (by kernel_rfl) rfl (by kernel_rfl) (by kernel_rfl) (by kernel_rfl) (fun _ _ _ h=>h) hS0 (by rfl) ?hy26 ?rest26
 case hy26=>(intro w hSw;(try dsimp only at hSw);first|(go_simp;done)|(go_simp;with_reducible rfl))
 try simp only[Act.put,List.setIfInBounds_toArray,List.set_cons_zero,List.set_cons_succ]
 refine wpAnyN_takeL (i:=2) (oi:=_) (v:=?v27) (by kernel_rfl) (by kernel_rfl) rfl (by kernel_rfl) (by kernel_rfl) (by kernel_rfl) (fun _ _ _ h=>h) hS0 (by rfl) ?hy27 ?rest27
 case hy27=>(intro w hSw;(try dsimp only at hSw);first|(go_simp;done)|(go_simp;with_reducible rfl))
 try simp only[Act.put,List.setIfInBounds_toArray,List.set_cons_zero,List.set_cons_succ]
 refine wpAnyN_takeL (i:=3) (oi:=_) (v:=?v28) (by kernel_rfl) (by kernel_rfl) rfl (by kernel_rfl) (by kernel_rfl) (by kernel_rfl) (fun _ _ _ h=>h) hS0 (by rfl) ?hy28 ?rest28
 case hy28=>(intro w hSw;(try dsimp only at hSw);first|(go_simp;done)|(go_simp;with_reducible rfl))
 try simp only[Act.put,List.setIfInBounds_toArray,List.set_cons_zero,List.set_cons_succ]
 refine wpAnyN_takeL (i:=4) (oi:=_) (v:=?v29) (by kernel_rfl) (by kernel_rfl) rfl (by kernel_rfl) (by kernel_rfl) (by kernel_rfl) (fun _ _ _ h=>h) hS0 (by rfl) ?hy29 ?rest29
 case hy29=>(intro w hSw;(try dsimp only at hSw);first|(go_simp;done)|(go_simp;with_reducible rfl))
 try simp only[Act.put,List.setIfInBounds_toArray,List.set_cons_zero,List.set_cons_succ]
 refine wpAnyN_takeL (i:=5) (oi:=_) (v:=?v30) (by kernel_rfl) (by kernel_rfl) rfl (by kernel_rfl) (by kernel_rfl) (by kernel_rfl) (fun _ _ _ h=>h) hS0 (by rfl) ?hy30 ?rest30
 case hy30=>(intro w hSw;(try dsimp only at hSw);first|(go_simp;done)|(go_simp;with_reducible rfl))
 try simp only[Act.put,List.setIfInBounds_toArray,List.set_cons_zero,List.set_cons_succ]
 refine wpAnyN_takeL (i:=6) (oi:=_) (v:=?v31) (by kernel_rfl) (by kernel_rfl) rfl (by kernel_rfl) (by kernel_rfl) (by kernel_rfl) (fun _ _ _ h=>h) hS0 (by rfl) ?hy31 ?rest31
 case hy31=>(intro w hSw;(try dsimp only at hSw);first|(go_simp;done)|(go_simp;with_reducible rfl))
 try simp only[Act.put,List.setIfInBounds_toArray,List.set_cons_zero,List.set_cons_succ]
 refine wpAnyN_takeL (i:=7) (oi:=_) (v:=?v32) (by kernel_rfl) (by kernel_rfl) rfl (by kernel_rfl) (by kernel_rfl) (by kernel_rfl) (fun _ _ _ h=>h) hS0 (by rfl) ?hy32 ?rest32
 case hy32=>(intro w hSw;(try dsimp only at hSw);first|(go_simp;done)|(go_simp;with_reducible rfl))
 try simp only[Act.put,List.setIfInBounds_toArray,List.set_cons_zero,List.set_cons_succ]
 refine wpAnyN_takeL (i:=8) (oi:=_) (v:=?v33) (by kernel_rfl) (by kernel_rfl) rfl (by kernel_rfl) (by kernel_rfl) (by kernel_rfl) (fun _ _ _ h=>h) hS0 (by rfl) ?hy33 ?rest33
 case hy33=>(intro w hSw;(try dsimp only at hSw);first|(go_simp;done)|(go_simp;with_reducible rfl))
 try simp only[Act.put,List.setIfInBounds_toArray,List.set_cons_zero,List.set_cons_succ]
 refine wpAnyN_takeL (i:=10) (oi:=_) (v:=?v34) (by kernel_rfl) (by kernel_rfl) rfl (by kernel_rfl) (by kernel_rfl) (by kernel_rfl) (fun _ _ _ h=>h) hS0 (by rfl) ?hy34 ?rest34
 case hy34=>(intro w hSw;(try dsimp only at hSw);first|(go_simp;done)|(go_simp;with_reducible rfl))
 try simp only[Act.put,List.setIfInBounds_toArray,List.set_cons_zero,List.set_cons_succ]
 refine wpAnyN_takeL (i:=11) (oi:=_) (v:=?v35) (by kernel_rfl) (by kernel_rfl) rfl (by kernel_rfl) (by kernel_rfl) (by kernel_rfl) (fun _ _ _ h=>h) hS0 (by rfl) ?hy35 ?rest35
 case hy35=>(intro w hSw;(try dsimp only at hSw);first|(go_simp;done)|(go_simp;with_reducible rfl))
 try simp only[Act.put,List.setIfInBounds_toArray,List.set_cons_zero,List.set_cons_succ]
 refine wpAnyN_takeL (i:=12) (oi:=_) (v:=?v36) (by kernel_rfl) (by kernel_rfl) rfl (by kernel_rfl) (by kernel_rfl) (by kernel_rfl) (fun _ _ _ h=>h) hS0 (by rfl) ?hy36 ?rest36
 case hy36=>(intro w hSw;(try dsimp only at hSw);first|(go_simp;done)|(go_simp;with_reducible rfl))
 try simp only[Act.put,List.setIfInBounds_toArray,List.set_cons_zero,List.set_cons_succ]
 refine wpAnyN_takeL (i:=13) (oi:=_) (v:=?v37) (by kernel_rfl) (by kernel_rfl) rfl (by kernel_rfl) (by kernel_rfl) (by kernel_rfl) (fun _ _ _ h=>h) hS0 (by rfl) ?hy37 ?rest37
 case hy37=>(intro w hSw;(try dsimp only at hSw);first|(go_simp;done)|(go_simp;with_reducible rfl))
 try simp only[Act.put,List.setIfInBounds_toArray,List.set_cons_zero,List.set_cons_succ]
 refine wpAnyN_one (i:=9) (o:=_) (by kernel_rfl) rfl (fun K hK=>?_)
 go_simp
 go_wp2_with (go_at_call 129;refine(c_l26Total x.zF b (o+5) _ HSO.out.mixer (show x.zF.good from HGD.out.2.2.2.2.2) (T.at_below HATM.out (yI HB1.out HB1.out.size HDr.out))).mono ?_;rintro e w2 ⟨rfl,hb⟩)
 have HD2:=hide (yI HDr.out HDr.out.size hb);clear hb
 refine hK.out _ _ ?_ (fun hS1=>?_)
 ·exact HKP.out _ HD2.out
 clear hK K hS0
 try simp only[Act.put,List.setIfInBounds_toArray,List.set_cons_zero,List.set_cons_succ]
 refine wpAnyN_one (i:=14) (o:=_) (by kernel_rfl) rfl (fun K hK=>?_)
 go_simp
 go_wp2_with (go_at_call 128;refine(c_l03Slice' _ row (totalF x.zF) lenN _ HLEN.out (by omega) (by omega) (by omega) (RdI.below HRR.out HD2.out)).mono ?_;rintro e w3 ⟨v2,rfl,ho,hb⟩)
 have HO3:=hide (OwI.more ho (Nat.le_trans HB1.out.size HD2.out.size));have HD3:=hide (yI HD2.out HD2.out.size hb);clear ho hb
 refine hK.out _ _ ?_ (fun hS2=>?_)
 ·exact HKP.out _ HD3.out
 clear hK K hS1
 try simp only[Act.put,List.setIfInBounds_toArray,List.set_cons_zero,List.set_cons_succ]
 refine wpAnyN_one (i:=15) (o:=_) (by kernel_rfl) rfl (fun K hK=>?_)
 go_simp
 refine hK.out _ _ ?_ (fun hS3=>?_)
 ·exact HKP.out _ HD3.out
 clear hK K hS2
 try simp only[Act.put,List.setIfInBounds_toArray,List.set_cons_zero,List.set_cons_succ]
 refine wpAnyN_end (by kernel_rfl) ?_
 clear hS3
 go_wp2
 go_ret
 exact⟨_,rfl,by rw[←HMX.out];exact HO3.out,yI HB1.out HB1.out.size HD3.out⟩
end Go.Proofs.YtoibekfhepnedaaGreat
