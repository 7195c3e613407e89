/- Contracts: the mix of a session, both sides. Contracts: SoundCache, both sides. The words of the translation's head, without running through its whole list of roots; and the closed facts of a row out of them. -/
import Derived.Test.YtoibekfhepnedaaGreatQBjExactSoundCache
import Derived.Test.YtoibekfhepnedaaGreatQBnExactSoundCache
import Derived.Test.YtoibekfhepnedaaGreatQAuExactSoundCache
import Derived.Test.YtoibekfhepnedaaGreatQAvExactSoundCache
import Derived.Test.YtoibekfhepnedaaGreatRows
import Derived.ProofKit
set_option linter.unusedVariables false
set_option linter.unusedSimpArgs false
set_option maxHeartbeats 8000000
set_option maxRecDepth 100000
section
namespace Go.Proofs.YtoibekfhepnedaaGreat
open Go.RowKit
theorem c_slice' (v:Value) (xs:List Int) (f:Int) (n:Nat) (w:World) {N:Int} (hN:N=(n:Int)) (h0:0≤f) (h1:f≤1048576) (hn:n≤1048576) (hr:RdI w v xs):Calls Tryz.prog 133 #[v,.int .i64 f,.int .i64 N] w fun e w'=> ∃ v',e= .returned v'∧OwI 2 w' w.heap.size v' (cutL xs f n)∧Below w.heap.size w w':=by
 subst hN;exact c_slice v xs f n w h0 h1 hn hr
theorem c_l03Slice' (v:Value) (xs:List Int) (f:Int) (n:Nat) (w:World) {N:Int} (hN:N=(n:Int)) (h0: -1048576≤f) (h1:f≤1048576) (hn:n≤1048576) (hr:RdI w v xs):Calls Tryz.prog 128 #[v,.int .i64 f,.int .i64 N] w fun e w'=> ∃ v',e= .returned v'∧OwI 2 w' w.heap.size v' (cutL xs f n)∧Below w.heap.size w w':=by
 subst hN;exact c_l03Slice v xs f n w h0 h1 hn hr
theorem c_mix (x:GSession) (cs:List Value) (w:World) (hS:SessionOk x) (hg:x.good) (h:T.rds w x.fs cs):Calls Tryz.prog 61 #[.agg cs.toArray] w fun e w'=> ∃ v,e= .returned v∧OwI 2 w' w.heap.size v (mixF x)∧Below w.heap.size w w':=by
 obtain⟨v1,v2,v3,v4,v5,rfl,h1,h2,h3,h4,h5⟩:=GSession.yN h
 clear h
 have R1:=hide h1;obtain⟨va1,vc1,rfl,vl1,vm1,vx1⟩:=T.yM h1
 have HX1:=hide vx1;clear vx1 h1
 have R2:=hide h2;obtain⟨va2,vc2,rfl,vl2,vm2,vx2⟩:=T.yM h2
 have HX2:=hide vx2;clear vx2 h2
 have h3i:=T.yR.1 h3;obtain⟨va3,vc3,rfl,vl3,vm3,vx3⟩:=h3i.open_
 have R3:=hide h3i;have HX3:=hide vx3;clear vx3 h3 h3i
 have R4:=hide h4;obtain⟨va4,vc4,rfl,vl4,vm4,vx4⟩:=T.yM h4
 have HX4:=hide vx4;clear vx4 h4
 have R5:=hide h5;obtain⟨va5,vc5,rfl,vl5,vm5,vx5⟩:=T.yM h5
 have HX5:=hide vx5;clear vx5 h5
 have HB0:=hide (show Below w.heap.size w (w.alloc (.cells #[.int .i64 x.zG,(.slice va1 x.zN.length vc1),(.slice va2 x.zO.length vc2),(.slice va3 x.zS.length vc3),(.slice va4 x.zP.length vc4),(.slice va5 x.zF.zC.length vc5)] 32)) from(Below.refl _ _).alloc (Nat.le_refl _) _)
 have HK0:=hide (Bk.born w 32 #[.int .i64 x.zG,(.slice va1 x.zN.length vc1),(.slice va2 x.zO.length vc2),(.slice va3 x.zS.length vc3),(.slice va4 x.zP.length vc4),(.slice va5 x.zF.zC.length vc5)])
 have HSO:=hide hS;have hn8:x.zF.zC.length≤8:=hS.mixer.few;have hn1:1≤x.zF.zC.length:=hS.mixer.some_;have htot:=total_ok hS.mixer;have hle:=yZ.1 hS.length;have HGD:=hide hg
 obtain⟨lenN,hlen⟩: ∃ q:Nat,x.zG=(q:Int):=⟨x.zG.toNat,by omega⟩
 have hl0:lenN≤1000:=by omega
 obtain⟨row,hrow,hrowd,-,-⟩:=(outsF_ok hS).get (show x.zF.zC.length - 1<x.zF.zC.length by omega)
 have HMX:=hide (show cutL row (totalF x.zF) lenN=mixF x by unfold mixF;rw[hrowd,hlen,Int.toNat_natCast])
 have hol:=(outsF_ok hS).len;have HRY:=hide (ready_last hS.mixer);have hryl:=length_readyF x.zF
 have HROW:=hide hrow;have HLEN:=hide hlen;clear hS hg hrow hrowd hlen
 obtain⟨m1,hm1⟩: ∃ m1:Nat,x.zF.zC.length - 1=m1:=⟨_,rfl⟩
 rw[hm1] at HROW HRY
 have hm2:x.zF.zC.length=m1+1:=by omega
 have hwm:IntKind.i64.wrap ((x.zF.zC.length:Int) - 1)=(m1:Int):=by rw[IntWalk.i64_in _ (by omega)];omega
 have HM2:=hide hm2;have hm3:m1<x.zF.zC.length:=by omega
 clear hm1 hm2
 go_enter Tryz.func61,Tryz.ntmps61
 go_wp2_with fail
 refine(c_strips x _ _ HSO.out HGD.out (GSession.rd_mk (T.yE R1.out HB0.out) (T.yE R2.out HB0.out) (T.yR.2 (Rd.below R3.out HB0.out)) (T.yE R4.out HB0.out) (T.yE R5.out HB0.out))).mono ?_;rintro e w1 ⟨vo,vr,rfl,ho,hr,hd⟩
 have hb:Below (w.alloc (.cells #[.int .i64 x.zG,(.slice va1 x.zN.length vc1),(.slice va2 x.zO.length vc2),(.slice va3 x.zS.length vc3),(.slice va4 x.zP.length vc4),(.slice va5 x.zF.zC.length vc5)] 32)).heap.size (w.alloc (.cells #[.int .i64 x.zG,(.slice va1 x.zN.length vc1),(.slice va2 x.zO.length vc2),(.slice va3 x.zS.length vc3),(.slice va4 x.zP.length vc4),(.slice va5 x.zF.zC.length vc5)] 32)) w1:=by first|exact hd|exact hd.to_below _|exact hd ▸ Below.refl _ _
 have HK1:=hide (HK0.out.below hb HK0.out.lt);have HB1:=hide (yI HB0.out HB0.out.size hb);clear hb hd;have ka:=HK1.out.cell;have la:=HK1.out.lt
 obtain⟨oA,ocap,rfl,-,-,ox⟩:=T.yM ho
 rw[hol] at *
 obtain⟨bo,oo,cso,hAo,hbo,hcso,hcello⟩:=ox _ _ HROW.out
 subst hAo
 obtain⟨vrow,rfl⟩:=T.rd_one hcso
 have eo:=hcello 0 vrow rfl;rw[Nat.mul_one,Nat.add_zero] at eo
 have HRR:=hide (T.yR.1 hcso);have HEO:=hide eo;clear hcso hcello eo ox ho
 obtain⟨bR,oR,cR,rfl,-,-,hbR,hxR⟩:=rdI_cells hr (by omega)
 rw[hryl] at *
 have HER:=hide (hxR _ _ HRY.out);clear hxR hr
 go_wp2
 have HDr:=hide ((Below.refl w1.heap.size w1).drew);have HWd:=hide (show w1.cell? ⟨w.heap.size,0,none⟩=some (.int .i64 x.zG)∧w1.cell? ⟨bo,oo+m1,none⟩=some vrow∧w1.cell? ⟨bR,oR+m1,none⟩=some (.int .i64 (totalF x.zF)) from⟨ka 0,HEO.out,HER.out⟩)
 have HKP:=hide (fun(w':World) (hw:Below w1.heap.size w1 w')=>(⟨(hw.cell (World.block_lt_of_cell? _ _ HWd.out.1)).trans HWd.out.1,(hw.cell (World.block_lt_of_cell? _ _ HWd.out.2.1)).trans HWd.out.2.1,(hw.cell (World.block_lt_of_cell? _ _ HWd.out.2.2)).trans HWd.out.2.2⟩:w'.cell? ⟨w.heap.size,0,none⟩=some (.int .i64 x.zG)∧w'.cell? ⟨bo,oo+m1,none⟩=some vrow∧w'.cell? ⟨bR,oR+m1,none⟩=some (.int .i64 (totalF x.zF))))
 clear ka la
 refine wp_region_N (fun w'=>w'.cell? ⟨w.heap.size,0,none⟩=some (.int .i64 x.zG)∧w'.cell? ⟨bo,oo+m1,none⟩=some vrow∧w'.cell? ⟨bR,oR+m1,none⟩=some (.int .i64 (totalF x.zF))) [] (by kernel_rfl) ?_ (fun hS0=>?_)
 ·exact HKP.out _ HDr.out
 generalize hwd:w1.drew=wd at *;clear hwd
 refine tN 0 hS0 ?_
 refine tN 1 hS0 ?_
 refine tN 2 hS0 ?_
 refine tN 3 hS0 ?_
 refine tN 4 hS0 ?_
 refine tN 5 hS0 ?_
 refine tN 6 hS0 ?_
 refine tN 7 hS0 ?_
 refine tN 8 hS0 ?_
 refine tN 9 hS0 ?_
 refine wpAnyN_one (i:=10) (o:=_) (by kernel_rfl) rfl (fun K hK=>?_)
 go_simp
 go_wp2_with (go_at_call 133;refine(c_slice' _ row (totalF x.zF) lenN _ HLEN.out htot.1 (by omega) (by omega) (RdI.below HRR.out HDr.out)).mono ?_;rintro e w2 ⟨v2,rfl,ho,hb⟩)
 have HO2:=hide (OwI.more ho (Nat.le_trans HB1.out.size HDr.out.size));have HD2:=hide (yI HDr.out HDr.out.size hb);clear ho hb
 refine hK.out _ _ ?_ (fun hS1=>?_)
 ·exact HKP.out _ HD2.out
 clear hK K hS0
 try simp only[Act.put,List.setIfInBounds_toArray,List.set_cons_zero,List.set_cons_succ]
 refine wpAnyN_one (i:=11) (o:=_) (by kernel_rfl) rfl (fun K hK=>?_)
 go_simp
 refine hK.out _ _ ?_ (fun hS2=>?_)
 ·exact HKP.out _ HD2.out
 clear hK K hS1
 try simp only[Act.put,List.setIfInBounds_toArray,List.set_cons_zero,List.set_cons_succ]
 refine wpAnyN_end (by kernel_rfl) ?_
 clear hS2
 go_wp2
 go_ret
 exact⟨_,rfl,by rw[←HMX.out];exact HO2.out,yI HB1.out HB1.out.size HD2.out⟩
theorem c_l27Mix (x:GSession) (b o:Nat) (w:World) (hS:SessionOk x) (hg:x.good) (h:T.at w x.fs b o):Calls Tryz.prog 55 #[.pointer (some ⟨b,o,none⟩)] w fun e w'=> ∃ v,e= .returned v∧OwI 2 w' w.heap.size v (mixF x)∧Below w.heap.size w w':=by
 have HAT:=hide h
 obtain⟨hlt0,cs,hr,hc⟩:=h
 obtain⟨v1,v2,v3,v4,v5,rfl,h1,h2,h3,h4,h5⟩:=GSession.yN hr
 clear hr
 have R1:=hide h1;obtain⟨va1,vc1,rfl,vl1,vm1,vx1⟩:=T.yM h1
 have HX1:=hide vx1;clear vx1 h1
 have R2:=hide h2;obtain⟨va2,vc2,rfl,vl2,vm2,vx2⟩:=T.yM h2
 have HX2:=hide vx2;clear vx2 h2
 have h3i:=T.yR.1 h3;obtain⟨va3,vc3,rfl,vl3,vm3,vx3⟩:=h3i.open_
 have R3:=hide h3i;have HX3:=hide vx3;clear vx3 h3 h3i
 have R4:=hide h4;obtain⟨va4,vc4,rfl,vl4,vm4,vx4⟩:=T.yM h4
 have HX4:=hide vx4;clear vx4 h4
 have R5:=hide h5;obtain⟨va5,vc5,rfl,vl5,vm5,vx5⟩:=T.yM h5
 have HX5:=hide vx5;clear vx5 h5
 have HL:=hide hlt0;have HCC:=hide hc;have HB0:=hide (Below.refl w.heap.size w);clear hlt0 hc
 have HSO:=hide hS;have hn8:x.zF.zC.length≤8:=hS.mixer.few;have hn1:1≤x.zF.zC.length:=hS.mixer.some_;have htot:=total_ok hS.mixer;have hle:=yZ.1 hS.length;have HGD:=hide hg
 obtain⟨lenN,hlen⟩: ∃ q:Nat,x.zG=(q:Int):=⟨x.zG.toNat,by omega⟩
 have hl0:lenN≤1000:=by omega
 obtain⟨row,hrow,hrowd,-,-⟩:=(outsF_ok hS).get (show x.zF.zC.length - 1<x.zF.zC.length by omega)
 have HMX:=hide (show cutL row (totalF x.zF) lenN=mixF x by unfold mixF;rw[hrowd,hlen,Int.toNat_natCast])
 have hol:=(outsF_ok hS).len;have HRY:=hide (ready_last hS.mixer);have hryl:=length_readyF x.zF
 have HROW:=hide hrow;have HLEN:=hide hlen;clear hS hg hrow hrowd hlen
 obtain⟨m1,hm1⟩: ∃ m1:Nat,x.zF.zC.length - 1=m1:=⟨_,rfl⟩
 rw[hm1] at HROW HRY
 have hm2:x.zF.zC.length=m1+1:=by omega
 have hwm:IntKind.i64.wrap ((x.zF.zC.length:Int) - 1)=(m1:Int):=by rw[IntWalk.i64_in _ (by omega)];omega
 have HM2:=hide hm2;have hm3:m1<x.zF.zC.length:=by omega
 clear hm1 hm2
 have HATM:=hide (show T.at w x.zF.fs b (o+5) from T.at_sub [.int .i64 x.zG,.slice va1 x.zN.length vc1,.slice va2 x.zO.length vc2,.slice va3 x.zS.length vc3,.slice va4 x.zP.length vc4] [.slice va5 x.zF.zC.length vc5] [] HL.out HCC.out (GMixer.rd_mk R5.out))
 have p0:w.cell? ⟨b,o,none⟩=some (.int .i64 x.zG):=(HB0.out.cell HL.out).trans (HCC.out 0 _ rfl)
 have p1:w.cell? ⟨b,o+1,none⟩=some (.slice va1 x.zN.length vc1):=(HB0.out.cell HL.out).trans (HCC.out 1 _ rfl)
 have p2:w.cell? ⟨b,o+2,none⟩=some (.slice va2 x.zO.length vc2):=(HB0.out.cell HL.out).trans (HCC.out 2 _ rfl)
 have p3:w.cell? ⟨b,o+3,none⟩=some (.slice va3 x.zS.length vc3):=(HB0.out.cell HL.out).trans (HCC.out 3 _ rfl)
 have p4:w.cell? ⟨b,o+4,none⟩=some (.slice va4 x.zP.length vc4):=(HB0.out.cell HL.out).trans (HCC.out 4 _ rfl)
 have p5:w.cell? ⟨b,o+5,none⟩=some (.slice va5 x.zF.zC.length vc5):=(HB0.out.cell HL.out).trans (HCC.out 5 _ rfl)
 have lb:b<w.heap.size:=Nat.lt_of_lt_of_le HL.out HB0.out.size
 go_enter Tryz.func55,Tryz.ntmps55
 go_wp2_with fail
 refine(c_l27Outputs x b o _ HSO.out HGD.out HAT.out).mono ?_;rintro e w1 ⟨vo,rfl,ho,hb⟩
 have HB1:=hide hb;clear hb p0 p1 p2 p3 p4 p5 lb
 obtain⟨oA,ocap,rfl,-,-,ox⟩:=T.yM ho
 rw[hol] at *
 obtain⟨bo,oo,cso,hAo,hbo,hcso,hcello⟩:=ox _ _ HROW.out
 subst hAo
 obtain⟨vrow,rfl⟩:=T.rd_one hcso
 have eo:=hcello 0 vrow rfl;rw[Nat.mul_one,Nat.add_zero] at eo
 have HRR:=hide (T.yR.1 hcso);have HEO:=hide eo;clear hcso hcello eo ox ho
 have p0:w1.cell? ⟨b,o,none⟩=some (.int .i64 x.zG):=(HB1.out.cell HL.out).trans (HCC.out 0 _ rfl)
 have p1:w1.cell? ⟨b,o+1,none⟩=some (.slice va1 x.zN.length vc1):=(HB1.out.cell HL.out).trans (HCC.out 1 _ rfl)
 have p2:w1.cell? ⟨b,o+2,none⟩=some (.slice va2 x.zO.length vc2):=(HB1.out.cell HL.out).trans (HCC.out 2 _ rfl)
 have p3:w1.cell? ⟨b,o+3,none⟩=some (.slice va3 x.zS.length vc3):=(HB1.out.cell HL.out).trans (HCC.out 3 _ rfl)
 have p4:w1.cell? ⟨b,o+4,none⟩=some (.slice va4 x.zP.length vc4):=(HB1.out.cell HL.out).trans (HCC.out 4 _ rfl)
 have p5:w1.cell? ⟨b,o+5,none⟩=some (.slice va5 x.zF.zC.length vc5):=(HB1.out.cell HL.out).trans (HCC.out 5 _ rfl)
 have lb:b<w1.heap.size:=Nat.lt_of_lt_of_le HL.out HB1.out.size
 go_wp2
 have HDr:=hide ((Below.refl w1.heap.size w1).drew);have HWd:=hide (show w1.cell? ⟨b,o,none⟩=some (.int .i64 x.zG)∧w1.cell? ⟨bo,oo+m1,none⟩=some vrow from⟨p0,HEO.out⟩)
 have HKP:=hide (fun(w':World) (hw:Below w1.heap.size w1 w')=>(⟨(hw.cell (World.block_lt_of_cell? _ _ HWd.out.1)).trans HWd.out.1,(hw.cell (World.block_lt_of_cell? _ _ HWd.out.2)).trans HWd.out.2⟩:w'.cell? ⟨b,o,none⟩=some (.int .i64 x.zG)∧w'.cell? ⟨bo,oo+m1,none⟩=some vrow))
 clear p0 p1 p2 p3 p4 p5 lb
 refine wp_region_N (fun w'=>w'.cell? ⟨b,o,none⟩=some (.int .i64 x.zG)∧w'.cell? ⟨bo,oo+m1,none⟩=some vrow) [] (by kernel_rfl) ?_ (fun hS0=>?_)
 ·exact HKP.out _ HDr.out
 generalize hwd:w1.drew=wd at *;clear hwd
 refine tN 0 hS0 ?_
 refine tN 1 hS0 ?_
 refine tN 2 hS0 ?_
 refine tN 3 hS0 ?_
 refine tN 4 hS0 ?_
 refine tN 5 hS0 ?_
 refine tN 6 hS0 ?_
 refine tN 7 hS0 ?_
 refine tN 8 hS0 ?_
 refine tN 10 hS0 ?_
 refine tN 11 hS0 ?_
 refine tN 12 hS0 ?_
 refine tN 13 hS0 ?_
 refine wpAnyN_one (i:=9) (o:=_) (by kernel_rfl) rfl (fun K hK=>?_)
 go_simp
 go_wp2_with (go_at_call 129;refine(c_l26Total x.zF b (o+5) _ HSO.out.mixer (show x.zF.good from HGD.out.2.2.2.2.2) (T.at_below HATM.out (yI HB1.out HB1.out.size HDr.out))).mono ?_;rintro e w2 ⟨rfl,hb⟩)
 have HD2:=hide (yI HDr.out HDr.out.size hb);clear hb
 refine hK.out _ _ ?_ (fun hS1=>?_)
 ·exact HKP.out _ HD2.out
 clear hK K hS0
 try simp only[Act.put,List.setIfInBounds_toArray,List.set_cons_zero,List.set_cons_succ]
 refine wpAnyN_one (i:=14) (o:=_) (by kernel_rfl) rfl (fun K hK=>?_)
 go_simp
 go_wp2_with (go_at_call 128;refine(c_l03Slice' _ row (totalF x.zF) lenN _ HLEN.out (by omega) (by omega) (by omega) (RdI.below HRR.out HD2.out)).mono ?_;rintro e w3 ⟨v2,rfl,ho,hb⟩)
 have HO3:=hide (OwI.more ho (Nat.le_trans HB1.out.size HD2.out.size));have HD3:=hide (yI HD2.out HD2.out.size hb);clear ho hb
 refine hK.out _ _ ?_ (fun hS2=>?_)
 ·exact HKP.out _ HD3.out
 clear hK K hS1
 try simp only[Act.put,List.setIfInBounds_toArray,List.set_cons_zero,List.set_cons_succ]
 refine wpAnyN_one (i:=15) (o:=_) (by kernel_rfl) rfl (fun K hK=>?_)
 go_simp
 refine hK.out _ _ ?_ (fun hS3=>?_)
 ·exact HKP.out _ HD3.out
 clear hK K hS2
 try simp only[Act.put,List.setIfInBounds_toArray,List.set_cons_zero,List.set_cons_succ]
 refine wpAnyN_end (by kernel_rfl) ?_
 clear hS3
 go_wp2
 go_ret
 exact⟨_,rfl,by rw[←HMX.out];exact HO3.out,yI HB1.out HB1.out.size HD3.out⟩
end Go.Proofs.YtoibekfhepnedaaGreat
end
section
namespace Go.Proofs.YtoibekfhepnedaaGreat
open Go.RowKit
/-- All blocks that are not dirty are those of the mix. -/
structure SoundC (c:GCache):Prop where
 ok:CacheOk c
 each:Each c.zY fun i v=>v=(mixF c.zE).getD i 0∨(i:Int) / 16 ∈ c.zW
theorem c_iSoundCache (x:GCache) (cs:List Value) (w:World) (hg:x.good) (hs:x.zE.small) (h:T.rds w x.fs cs):Calls Tryz.prog 22 #[.agg cs.toArray] w fun e w'=>e= .returned (.bool (tf (SoundC x)))∧Below w.heap.size w w':=by
 obtain⟨v1,v2,v3,v4,v5,v6,v7,rfl,h1,h2,h3,h4,h5,h6,h7⟩:=GCache.yN h
 clear h
 have R1:=hide h1;obtain⟨va1,vc1,rfl,vl1,vm1,vx1⟩:=T.yM h1
 have HX1:=hide vx1;clear vx1 h1
 have R2:=hide h2;obtain⟨va2,vc2,rfl,vl2,vm2,vx2⟩:=T.yM h2
 have HX2:=hide vx2;clear vx2 h2
 have h3i:=T.yR.1 h3;obtain⟨va3,vc3,rfl,vl3,vm3,vx3⟩:=h3i.open_
 have R3:=hide h3i;have HX3:=hide vx3;clear vx3 h3 h3i
 have R4:=hide h4;obtain⟨va4,vc4,rfl,vl4,vm4,vx4⟩:=T.yM h4
 have HX4:=hide vx4;clear vx4 h4
 have R5:=hide h5;obtain⟨va5,vc5,rfl,vl5,vm5,vx5⟩:=T.yM h5
 have HX5:=hide vx5;clear vx5 h5
 have h6i:=T.yR.1 h6;obtain⟨va6,vc6,rfl,vl6,vm6,vx6⟩:=h6i.open_
 have R6:=hide h6i;have HX6:=hide vx6;clear vx6 h6 h6i
 have h7i:=T.yR.1 h7;obtain⟨va7,vc7,rfl,vl7,vm7,vx7⟩:=h7i.open_
 have R7:=hide h7i;have HX7:=hide vx7;clear vx7 h7 h7i
 have HB0:=hide (show Below w.heap.size w (w.alloc (.cells #[.int .i64 x.zE.zG,(.slice va1 x.zE.zN.length vc1),(.slice va2 x.zE.zO.length vc2),(.slice va3 x.zE.zS.length vc3),(.slice va4 x.zE.zP.length vc4),(.slice va5 x.zE.zF.zC.length vc5),(.slice va6 x.zY.length vc6),(.slice va7 x.zW.length vc7)] 65)) from(Below.refl _ _).alloc (Nat.le_refl _) _)
 have HK0:=hide (Bk.born w 65 #[.int .i64 x.zE.zG,(.slice va1 x.zE.zN.length vc1),(.slice va2 x.zE.zO.length vc2),(.slice va3 x.zE.zS.length vc3),(.slice va4 x.zE.zP.length vc4),(.slice va5 x.zE.zF.zC.length vc5),(.slice va6 x.zY.length vc6),(.slice va7 x.zW.length vc7)])
 have HGS:=hide (show x.zE.good from⟨hg.1,hg.2.1,hg.2.2.1,hg.2.2.2.1,hg.2.2.2.2.1,hg.2.2.2.2.2.1⟩);clear hg
 go_enter Tryz.func22,Tryz.ntmps22
 go_wp2_with fail
 refine(c_isCache x _ _ hs (GCache.rd_mk (T.yE R1.out HB0.out) (T.yE R2.out HB0.out) (T.yR.2 (Rd.below R3.out HB0.out)) (T.yE R4.out HB0.out) (T.yE R5.out HB0.out) (T.yR.2 (Rd.below R6.out HB0.out)) (T.yR.2 (Rd.below R7.out HB0.out)))).mono ?_;rintro e w1 ⟨rfl,hd⟩
 have hb:Below (w.alloc (.cells #[.int .i64 x.zE.zG,(.slice va1 x.zE.zN.length vc1),(.slice va2 x.zE.zO.length vc2),(.slice va3 x.zE.zS.length vc3),(.slice va4 x.zE.zP.length vc4),(.slice va5 x.zE.zF.zC.length vc5),(.slice va6 x.zY.length vc6),(.slice va7 x.zW.length vc7)] 65)).heap.size (w.alloc (.cells #[.int .i64 x.zE.zG,(.slice va1 x.zE.zN.length vc1),(.slice va2 x.zE.zO.length vc2),(.slice va3 x.zE.zS.length vc3),(.slice va4 x.zE.zP.length vc4),(.slice va5 x.zE.zF.zC.length vc5),(.slice va6 x.zY.length vc6),(.slice va7 x.zW.length vc7)] 65)) w1:=by first|exact hd|exact hd.to_below _|exact hd ▸ Below.refl _ _
 have HK1:=hide (HK0.out.below hb HK0.out.lt);have HB1:=hide (yI HB0.out HB0.out.size hb);clear hb hd;have ka:=HK1.out.cell;have la:=HK1.out.lt
 by_cases q1:CacheOk x
 rotate_left
 ·
  rw[yW q1]
  go_wp2
  go_ret
  exact⟨yH (yW fun h=>q1 h.ok).symm,HB1.out⟩
 rw[yX q1];have Q1:=hide q1;clear q1
 have i1:=yZ.1 Q1.out.session.length;have hml:=Q1.out.length
 go_wp2_with fail
 refine(c_mix x.zE _ _ Q1.out.session HGS.out (GSession.rd_mk (T.yE R1.out HB1.out) (T.yE R2.out HB1.out) (T.yR.2 (Rd.below R3.out HB1.out)) (T.yE R4.out HB1.out) (T.yE R5.out HB1.out))).mono ?_;rintro e w2 ⟨vm,rfl,ho,hd⟩
 have HML:=hide (show (mixF x.zE).length=x.zY.length by rw[length_mixF];omega)
 obtain⟨mA,mc,hvm,ml,mm,mx⟩:=(OwI.rd ho).open_
 rw[HML.out] at hvm;subst hvm;have HMX:=hide mx;clear ho mx ml
 have hb:Below w1.heap.size w1 w2:=by first|exact hd|exact hd.to_below _|exact hd ▸ Below.refl _ _
 have HK2:=hide (HK1.out.below hb HK1.out.lt);have HB2:=hide (yI HB1.out HB1.out.size hb);clear hb hd ka la;have ka:=HK2.out.cell;have la:=HK2.out.lt
 have HYES:=hide (fun(h:Each x.zY (fun i v=>v=(mixF x.zE).getD i 0∨(i:Int) / 16 ∈ x.zW))=>(yH (yX (SoundC.mk Q1.out h)).symm:Ending.returned (.bool true)= .returned (.bool (tf (SoundC x)))))
 have HNO:=hide (fun(h: ¬ SoundC x)=>(yH (yW h).symm:Ending.returned (.bool false)= .returned (.bool (tf (SoundC x)))))
 have hlen0:(x.zY.length:Int)=x.zE.zG:=hml;have hmb:x.zY.length≤1000:=by omega
 clear hml hlen0
 go_wp2
 clear ka la
 go_loopw [12] (fun i wr=> ∃ k:Nat,k≤x.zY.length∧i= .int .i64 (k:Int)∧Upto x.zY (fun i v=>v=(mixF x.zE).getD i 0∨(i:Int) / 16 ∈ x.zW) k∧Below w2.heap.size w2 wr) (fun i _=>x.zY.length - (intOf i).toNat)
 case atStart=>exact⟨0,Nat.zero_le _,rfl,Upto.zero,Below.refl _ _⟩
 case round=>
  obtain⟨k,hk,rfl,hu,hbw⟩:=hrel
  have HU:=hide hu;have HW:=hide hbw;have HB:=hide (yI HB2.out HB2.out.size hbw);have HK:=hide (HK2.out.below hbw HK2.out.lt);clear hu hbw
  have ka:=HK.out.cell;have la:=HK.out.lt
  have e2:IntKind.i64.wrap ((k:Int)+1)=(k:Int)+1:=IntWalk.i64_in _ (by omega)
  by_cases hlt:k<x.zY.length
  rotate_left
  ·
   obtain rfl:k=x.zY.length:=by omega
   have HE:=hide (HU.out.all (Nat.le_refl _))
   go_wp2
   go_ret
   exact⟨HYES.out HE.out,HB.out⟩
  have hlm:k<(mixF x.zE).length:=by rw[HML.out];exact hlt
  have hgm:=List.getElem?_eq_getElem hlm;have hgx:=List.getElem?_eq_getElem hlt
  obtain⟨bM,oM,hAM,hbM,hcM⟩:=HMX.out k _ hgm
  obtain⟨bX,oX,hAX,hbX,hcX⟩:=HX6.out k _ hgx
  subst hAM;subst hAX
  have HGD:=hide (show (mixF x.zE).getD k 0=(mixF x.zE)[k] by rw[List.getD_eq_getElem?_getD,hgm];rfl)
  generalize (mixF x.zE)[k]=am at *;generalize x.zY[k]=ax at *
  have HGX:=hide hgx;clear hgm hgx
  have cM:=(HW.out.cell hbM).trans hcM;have cX:=(HB.out.cell hbX).trans hcX;have lM:bM<wr.heap.size:=Nat.lt_of_lt_of_le hbM HW.out.size;have lX:bX<wr.heap.size:=Nat.lt_of_lt_of_le hbX HB.out.size;clear hcM hcX
  have hdv:(k:Int).tdiv 16=(k:Int) / 16:=Int.tdiv_eq_ediv_of_nonneg (by omega)
  by_cases e:ax=am
  ·
   have q6:(ax != am)=false:=bneI_f e
   have HEQ:=hide e;clear e
   go_wp2
   go_roundw
   case rel=>exact⟨k+1,by omega,by go_num,HU.out.step HGX.out (.inl (by rw[HGD.out];exact HEQ.out)),HW.out⟩
   case measure=>simp[intOf];omega
  have q6:(ax != am)=true:=bneI_t e
  have HNE:=hide e;clear e
  cases q5:decide ((k:Int) / 16 ∈ x.zW)
  ·
   have Q5:=hide (of_decide_eq_false q5)
   go_wp2_with (go_at_call 62;refine(c_has _ x.zW _ _ (Rd.below R7.out HB.out)).mono ?_;rintro e w' ⟨rfl,rfl⟩;rw[q5])
   go_ret
   exact⟨HNO.out (fun h=>by rcases h.each k _ HGX.out with h1|h1;(· exact HNE.out (h1.trans HGD.out));(· exact Q5.out h1)),HB.out⟩
  have Q5:=hide (of_decide_eq_true q5)
  go_wp2_with (go_at_call 62;refine(c_has _ x.zW _ _ (Rd.below R7.out HB.out)).mono ?_;rintro e w' ⟨rfl,rfl⟩;rw[q5])
  go_roundw
  case rel=>exact⟨k+1,by omega,by go_num,HU.out.step HGX.out (.inr Q5.out),HW.out⟩
  case measure=>simp[intOf];omega
theorem c_sSoundCache (x:GCache) (cs:List Value) (w:World) (hg:x.good) (hs:x.zE.small) (h:T.rds w x.fs cs):Calls Tryz.prog 20 #[.agg cs.toArray] w fun e w'=>e= .returned (.bool (tf (SoundC x)))∧Below w.heap.size w w':=by
 obtain⟨v1,v2,v3,v4,v5,v6,v7,rfl,h1,h2,h3,h4,h5,h6,h7⟩:=GCache.yN h
 clear h
 have R1:=hide h1;obtain⟨va1,vc1,rfl,vl1,vm1,vx1⟩:=T.yM h1
 have HX1:=hide vx1;clear vx1 h1
 have R2:=hide h2;obtain⟨va2,vc2,rfl,vl2,vm2,vx2⟩:=T.yM h2
 have HX2:=hide vx2;clear vx2 h2
 have h3i:=T.yR.1 h3;obtain⟨va3,vc3,rfl,vl3,vm3,vx3⟩:=h3i.open_
 have R3:=hide h3i;have HX3:=hide vx3;clear vx3 h3 h3i
 have R4:=hide h4;obtain⟨va4,vc4,rfl,vl4,vm4,vx4⟩:=T.yM h4
 have HX4:=hide vx4;clear vx4 h4
 have R5:=hide h5;obtain⟨va5,vc5,rfl,vl5,vm5,vx5⟩:=T.yM h5
 have HX5:=hide vx5;clear vx5 h5
 have h6i:=T.yR.1 h6;obtain⟨va6,vc6,rfl,vl6,vm6,vx6⟩:=h6i.open_
 have R6:=hide h6i;have HX6:=hide vx6;clear vx6 h6 h6i
 have h7i:=T.yR.1 h7;obtain⟨va7,vc7,rfl,vl7,vm7,vx7⟩:=h7i.open_
 have R7:=hide h7i;have HX7:=hide vx7;clear vx7 h7 h7i
 have HB0:=hide (show Below w.heap.size w (w.alloc (.cells #[.int .i64 x.zE.zG,(.slice va1 x.zE.zN.length vc1),(.slice va2 x.zE.zO.length vc2),(.slice va3 x.zE.zS.length vc3),(.slice va4 x.zE.zP.length vc4),(.slice va5 x.zE.zF.zC.length vc5),(.slice va6 x.zY.length vc6),(.slice va7 x.zW.length vc7)] 65)) from(Below.refl _ _).alloc (Nat.le_refl _) _)
 have HK0:=hide (Bk.born w 65 #[.int .i64 x.zE.zG,(.slice va1 x.zE.zN.length vc1),(.slice va2 x.zE.zO.length vc2),(.slice va3 x.zE.zS.length vc3),(.slice va4 x.zE.zP.length vc4),(.slice va5 x.zE.zF.zC.length vc5),(.slice va6 x.zY.length vc6),(.slice va7 x.zW.length vc7)])
 have HGS:=hide (show x.zE.good from⟨hg.1,hg.2.1,hg.2.2.1,hg.2.2.2.1,hg.2.2.2.2.1,hg.2.2.2.2.2.1⟩);clear hg
 go_enter Tryz.func20,Tryz.ntmps20
 go_wp2_with fail
 refine(c_l31Cache x _ _ _ hs (T.at_bk HK0.out (GCache.rd_mk (T.yE R1.out HB0.out) (T.yE R2.out HB0.out) (T.yR.2 (Rd.below R3.out HB0.out)) (T.yE R4.out HB0.out) (T.yE R5.out HB0.out) (T.yR.2 (Rd.below R6.out HB0.out)) (T.yR.2 (Rd.below R7.out HB0.out))))).mono ?_;rintro e w1 ⟨rfl,hd⟩
 have hb:Below (w.alloc (.cells #[.int .i64 x.zE.zG,(.slice va1 x.zE.zN.length vc1),(.slice va2 x.zE.zO.length vc2),(.slice va3 x.zE.zS.length vc3),(.slice va4 x.zE.zP.length vc4),(.slice va5 x.zE.zF.zC.length vc5),(.slice va6 x.zY.length vc6),(.slice va7 x.zW.length vc7)] 65)).heap.size (w.alloc (.cells #[.int .i64 x.zE.zG,(.slice va1 x.zE.zN.length vc1),(.slice va2 x.zE.zO.length vc2),(.slice va3 x.zE.zS.length vc3),(.slice va4 x.zE.zP.length vc4),(.slice va5 x.zE.zF.zC.length vc5),(.slice va6 x.zY.length vc6),(.slice va7 x.zW.length vc7)] 65)) w1:=by first|exact hd|exact hd.to_below _|exact hd ▸ Below.refl _ _
 have HK1:=hide (HK0.out.below hb HK0.out.lt);have HB1:=hide (yI HB0.out HB0.out.size hb);clear hb hd;have ka:=HK1.out.cell;have la:=HK1.out.lt
 by_cases q1:CacheOk x
 rotate_left
 ·
  rw[yW q1]
  go_wp2
  go_ret
  exact⟨yH (yW fun h=>q1 h.ok).symm,HB1.out⟩
 rw[yX q1];have Q1:=hide q1;clear q1
 have i1:=yZ.1 Q1.out.session.length;have hml:=Q1.out.length
 go_wp2_with fail
 refine(c_l27Mix x.zE _ _ _ Q1.out.session HGS.out (T.at_sub [] [.int .i64 x.zE.zG,(.slice va1 x.zE.zN.length vc1),(.slice va2 x.zE.zO.length vc2),(.slice va3 x.zE.zS.length vc3),(.slice va4 x.zE.zP.length vc4),(.slice va5 x.zE.zF.zC.length vc5)] [(.slice va6 x.zY.length vc6),(.slice va7 x.zW.length vc7)] HK1.out.lt (fun j u h=>by rw[Nat.zero_add];exact(HK1.out.cell j).trans (by simpa using h)) (GSession.rd_mk (T.yE R1.out HB1.out) (T.yE R2.out HB1.out) (T.yR.2 (Rd.below R3.out HB1.out)) (T.yE R4.out HB1.out) (T.yE R5.out HB1.out)))).mono ?_;rintro e w2 ⟨vm,rfl,ho,hd⟩
 have HML:=hide (show (mixF x.zE).length=x.zY.length by rw[length_mixF];omega)
 obtain⟨mA,mc,hvm,ml,mm,mx⟩:=(OwI.rd ho).open_
 rw[HML.out] at hvm;subst hvm;have HMX:=hide mx;clear ho mx ml
 have hb:Below w1.heap.size w1 w2:=by first|exact hd|exact hd.to_below _|exact hd ▸ Below.refl _ _
 have HK2:=hide (HK1.out.below hb HK1.out.lt);have HB2:=hide (yI HB1.out HB1.out.size hb);clear hb hd ka la;have ka:=HK2.out.cell;have la:=HK2.out.lt
 have HYES:=hide (fun(h:Each x.zY (fun i v=>v=(mixF x.zE).getD i 0∨(i:Int) / 16 ∈ x.zW))=>(yH (yX (SoundC.mk Q1.out h)).symm:Ending.returned (.bool true)= .returned (.bool (tf (SoundC x)))))
 have HNO:=hide (fun(h: ¬ SoundC x)=>(yH (yW h).symm:Ending.returned (.bool false)= .returned (.bool (tf (SoundC x)))))
 have hlen0:(x.zY.length:Int)=x.zE.zG:=hml;have hmb:x.zY.length≤1000:=by omega
 have HLQ:=hide hlen0;clear hml hlen0
 go_wp2
 clear ka la
 go_loopw [4] (fun i wr=> ∃ k:Nat,k≤x.zY.length∧i= .int .i64 (k:Int)∧Upto x.zY (fun i v=>v=(mixF x.zE).getD i 0∨(i:Int) / 16 ∈ x.zW) k∧Below w2.heap.size w2 wr) (fun i _=>x.zY.length - (intOf i).toNat)
 case atStart=>exact⟨0,Nat.zero_le _,rfl,Upto.zero,Below.refl _ _⟩
 case round=>
  obtain⟨k,hk,rfl,hu,hbw⟩:=hrel
  have HU:=hide hu;have HW:=hide hbw;have HB:=hide (yI HB2.out HB2.out.size hbw);have HK:=hide (HK2.out.below hbw HK2.out.lt);clear hu hbw
  have ka:=HK.out.cell;have la:=HK.out.lt
  have e2:IntKind.i64.wrap ((k:Int)+1)=(k:Int)+1:=IntWalk.i64_in _ (by omega)
  by_cases hlt:k<x.zY.length
  rotate_left
  ·
   obtain rfl:k=x.zY.length:=by omega
   have HE:=hide (HU.out.all (Nat.le_refl _))
   have hnl: ¬ ((x.zY.length:Int)<x.zE.zG):=by have:=HLQ.out;omega
   go_wp2
   go_ret
   exact⟨HYES.out HE.out,HB.out⟩
  have hnl:(k:Int)<x.zE.zG:=by have:=HLQ.out;omega
  have hlm:k<(mixF x.zE).length:=by rw[HML.out];exact hlt
  have hgm:=List.getElem?_eq_getElem hlm;have hgx:=List.getElem?_eq_getElem hlt
  obtain⟨bM,oM,hAM,hbM,hcM⟩:=HMX.out k _ hgm
  obtain⟨bX,oX,hAX,hbX,hcX⟩:=HX6.out k _ hgx
  subst hAM;subst hAX
  have HGD:=hide (show (mixF x.zE).getD k 0=(mixF x.zE)[k] by rw[List.getD_eq_getElem?_getD,hgm];rfl)
  generalize (mixF x.zE)[k]=am at *;generalize x.zY[k]=ax at *
  have HGX:=hide hgx;clear hgm hgx
  have cM:=(HW.out.cell hbM).trans hcM;have cX:=(HB.out.cell hbX).trans hcX;have lM:bM<wr.heap.size:=Nat.lt_of_lt_of_le hbM HW.out.size;have lX:bX<wr.heap.size:=Nat.lt_of_lt_of_le hbX HB.out.size;clear hcM hcX
  have hdv:(k:Int).tdiv 16=(k:Int) / 16:=Int.tdiv_eq_ediv_of_nonneg (by omega)
  by_cases e:ax=am
  ·
   have q6:(ax != am)=false:=bneI_f e
   have HEQ:=hide e;clear e
   go_wp2
   have g0:=xB HK.out;have g1:=yF cM;have g2:=yF cX
   refine xA (by kernel_rfl) (by kernel_rfl) ?_
   repeat(first|go_big_quiet_skip|(go_big_quiet_want;go_big_quiet_op;first|go_big_quiet_on|(apply Exists.intro;refine⟨fun _=>?_,?_⟩;(· (fail));go_big_quiet_on)))
   refine wpQuiet_nil ?_
   rintro w3 ⟨uu,rfl⟩
   have hb9:=yG wr uu
   generalize bel wr uu=w3 at *
   have HB9:=hide (yI HB.out HB.out.size hb9);have HW9:=hide (yI HW.out HW.out.size hb9);clear hb9 g0 g1 g2
   go_wp2
   go_roundw
   case rel=>exact⟨k+1,by omega,by go_num,HU.out.step HGX.out (.inl (by rw[HGD.out];exact HEQ.out)),HW9.out⟩
   case measure=>simp[intOf];omega
  have q6:(ax != am)=true:=bneI_t e
  have HNE:=hide e;clear e
  cases q5:decide ((k:Int) / 16 ∈ x.zW)
  ·
   have Q5:=hide (of_decide_eq_false q5)
   have HASC:=hide (fun(W:World) (h:RdI W (.slice va7 x.zW.length vc7) x.zW)=>(by have:=c_l00Has _ x.zW ((k:Int) / 16) W h;rw[q5] at this;exact this:Calls Tryz.prog 58 #[.slice va7 x.zW.length vc7,.int .i64 ((k:Int) / 16)] W fun e w'=>e= .returned (.bool false)∧W=w'));clear q5
   go_wp2
   have g0:=xB HK.out;have g1:=yF cM;have g2:=yF cX
   refine xA (by kernel_rfl) (by kernel_rfl) ?_
   repeat(first|go_big_quiet_skip|(go_big_quiet_want;go_big_quiet_op;first|go_big_quiet_on|(apply Exists.intro;refine⟨fun _=>?_,?_⟩;(· ((go_at_call 58;exact Calls.yJ (HASC.out _ (Rd.below R7.out (yI HB.out HB.out.size (yG wr _)))))));go_big_quiet_on)))
   refine wpQuiet_nil ?_
   rintro w3 ⟨uu,rfl⟩
   have hb9:=yG wr uu
   generalize bel wr uu=w3 at *
   have HB9:=hide (yI HB.out HB.out.size hb9);have HW9:=hide (yI HW.out HW.out.size hb9);clear hb9 g0 g1 g2
   go_wp2
   go_ret
   exact⟨HNO.out (fun h=>by rcases h.each k _ HGX.out with h1|h1;(· exact HNE.out (h1.trans HGD.out));(· exact Q5.out h1)),HB9.out⟩
  have Q5:=hide (of_decide_eq_true q5)
  have HASC:=hide (fun(W:World) (h:RdI W (.slice va7 x.zW.length vc7) x.zW)=>(by have:=c_l00Has _ x.zW ((k:Int) / 16) W h;rw[q5] at this;exact this:Calls Tryz.prog 58 #[.slice va7 x.zW.length vc7,.int .i64 ((k:Int) / 16)] W fun e w'=>e= .returned (.bool true)∧W=w'));clear q5
  go_wp2
  have g0:=xB HK.out;have g1:=yF cM;have g2:=yF cX
  refine xA (by kernel_rfl) (by kernel_rfl) ?_
  repeat(first|go_big_quiet_skip|(go_big_quiet_want;go_big_quiet_op;first|go_big_quiet_on|(apply Exists.intro;refine⟨fun _=>?_,?_⟩;(· ((go_at_call 58;exact Calls.yJ (HASC.out _ (Rd.below R7.out (yI HB.out HB.out.size (yG wr _)))))));go_big_quiet_on)))
  refine wpQuiet_nil ?_
  rintro w3 ⟨uu,rfl⟩
  have hb9:=yG wr uu
  generalize bel wr uu=w3 at *
  have HB9:=hide (yI HB.out HB.out.size hb9);have HW9:=hide (yI HW.out HW.out.size hb9);clear hb9 g0 g1 g2
  go_wp2
  go_roundw
  case rel=>exact⟨k+1,by omega,by go_num,HU.out.step HGX.out (.inr Q5.out),HW9.out⟩
  case measure=>simp[intOf];omega
end Go.Proofs.YtoibekfhepnedaaGreat
end
section
namespace Go.Proofs.YtoibekfhepnedaaGreat
open Go.ChangeShapes
theorem words_pre: ∀ (a r:List Char),(a.all fun c=>c != Char.ofNat 32)=true→wordsSigns (a++Char.ofNat 32 :: r)=a :: wordsSigns r
 | [],r,_=>rfl
 |c :: a,r,h=>by
  simp only[List.all_cons,Bool.and_eq_true,bne_iff_ne,ne_eq] at h
  have ih:=words_pre a r (by simpa using h.2)
  rw[List.cons_append]
  conv=>lhs;unfold wordsSigns
  split
  ·rename_i e;cases e
  ·rename_i e
   injection e with e1 _
   exact absurd e1 h.1
  ·rename_i e
   injection e with e1 e2
   subst e1 e2
   rw[ih]
theorem head_list: ∃ l,Tryz.prog.initOrder=String.ofList l∧("harness e82b0b89ba27765a464d549177c32b2184cc887a43bee21ac0e0d4633859cc82 cut ".toList).isPrefixOf l=true:=by
 refine⟨_,rfl,?_⟩
 kernel_rfl
theorem head_words: ∃ X,wordsSigns Tryz.prog.initOrder.toList= "harness".toList :: "e82b0b89ba27765a464d549177c32b2184cc887a43bee21ac0e0d4633859cc82".toList :: "cut".toList :: X:=by
 obtain⟨l,hl,hp⟩:=head_list
 obtain⟨r,hr⟩:=List.isPrefixOf_iff_prefix.1 hp
 have e: "harness e82b0b89ba27765a464d549177c32b2184cc887a43bee21ac0e0d4633859cc82 cut ".toList= "harness".toList++Char.ofNat 32 :: ("e82b0b89ba27765a464d549177c32b2184cc887a43bee21ac0e0d4633859cc82".toList++Char.ofNat 32 :: ("cut".toList++ [Char.ofNat 32])):=by kernel_rfl
 refine⟨wordsSigns r,?_⟩
 rw[hl,String.toList_ofList,←hr,e]
 simp only[List.append_assoc,List.cons_append,List.nil_append]
 rw[words_pre _ _ (by kernel_rfl),words_pre _ _ (by kernel_rfl),words_pre _ _ (by kernel_rfl)]
theorem behind: ∃ X,behindMainWord (wordsSigns Tryz.prog.initOrder.toList)= "cut".toList :: X:=by
 obtain⟨X,hX⟩:=head_words
 refine⟨X,?_⟩
 rw[hX]
 have e1:("harness".toList == "harness".toList || "harness".toList == "ownmain".toList)=true:=by kernel_rfl
 have e2:isSumSigns "e82b0b89ba27765a464d549177c32b2184cc887a43bee21ac0e0d4633859cc82".toList=true:=by kernel_rfl
 unfold behindMainWord
 dsimp only
 rw[e1,e2];rfl
section
variable {P:Program} {X:List (List Char)}
theorem make_of (hX:behindMainWord (wordsSigns P.initOrder.toList)= "cut".toList :: X):P.make=some .cut:=by
 unfold Program.make
 rw[hX];rfl
theorem lifts_of (X:List (List Char)):stripLifts liftWords ("cut".toList :: X)=([], "cut".toList :: X):=rfl
theorem headLifts_of (hX:behindMainWord (wordsSigns P.initOrder.toList)= "cut".toList :: X):P.headLifts= []:=by
 unfold Program.headLifts
 rw[hX,lifts_of];rfl
theorem liftsFinal_of (hX:behindMainWord (wordsSigns P.initOrder.toList)= "cut".toList :: X):P.liftsFinal=false:=by
 unfold Program.liftsFinal
 rw[hX,headLifts_of hX];rfl
theorem mayEnter_of (hX:behindMainWord (wordsSigns P.initOrder.toList)= "cut".toList :: X) (h1:P.laysLater=false) (h2:P.bearsReflect=false) (h3:P.doorFits []=true):P.mayEnter=true:=by
 unfold Program.mayEnter
 rw[hX]
 dsimp only
 rw[lifts_of,h1,h2,h3]
 rfl
end
theorem make_is:Tryz.prog.make=some .cut:=by
 obtain⟨X,hX⟩:=behind
 exact make_of hX
theorem liftsFinal_is:Tryz.prog.liftsFinal=false:=by
 obtain⟨X,hX⟩:=behind
 exact liftsFinal_of hX
theorem mayEnter_is:Tryz.prog.mayEnter=true:=by
 obtain⟨X,hX⟩:=behind
 exact mayEnter_of hX (by kernel_rfl) (by kernel_rfl) (by kernel_rfl)
theorem laidOut_is:laidOutB Tryz.prog=true:=by kernel_rfl
theorem own_is:ownKnob Tryz.prog.godebug=none:=by kernel_rfl
end Go.Proofs.YtoibekfhepnedaaGreat
end
