/- Contracts: the outputs of all nodes in a frame, by the reference. -/
import Derived.Test.YtoibekfhepnedaaGreatQApExactMakeCache
import Derived.Test.YtoibekfhepnedaaGreatQAtExactMakeCache
import Derived.Test.YtoibekfhepnedaaGreatQAsExactMakeCache
import Derived.Test.YtoibekfhepnedaaGreatQAuExactMakeCache
import Derived.Test.YtoibekfhepnedaaGreatQAxExactMakeCache
import Derived.Test.YtoibekfhepnedaaGreatQAfExactMakeCache
set_option linter.unusedVariables false
set_option linter.unusedSimpArgs false
set_option maxHeartbeats 8000000
set_option maxRecDepth 100000
namespace Go.Proofs.YtoibekfhepnedaaGreat
open Go.RowKit
theorem smp_zeros0 (n:Nat): ∀ y ∈ List.replicate n (0:Int),Smp y:=fun y hy=>by rw[(List.mem_replicate.1 hy).2];exact smp_zero
theorem c_l08Values (x:xG) (b o:Nat) (cells:List (List Int)) (frame:List Int) (bs:Nat) (vc ov fv:Value) (w:World) (hP:wZ x) (hS:StOk x cells) (hF: ∀ y ∈ frame,Smp y) (hfl:(frame.length:Int)=x.zJ) (ho_:RdI w ov (xR x.zB)) (hs_:w.cell? ⟨bs,0,none⟩=some vc) (hc_:T.rd w (T.sl 26 1 (cells.map (T.ints 2))) [vc]) (hf_:RdI w fv frame) (h:T.at w x.fs b o):Calls Tryz.prog 271 #[.pointer (some ⟨b,o,none⟩),ov,.pointer (some ⟨bs,0,none⟩),fv] w fun e w'=> ∃ v,e= .returned v∧OwI 2 w' w.heap.size v (vO x cells frame)∧Below w.heap.size w w':=by
 have HAT:=hide h
 obtain⟨hlt0,cs,hr,hc⟩:=h
 obtain⟨v1,v2,v3,rfl,h1,h2,h3⟩:=xG.yO hr
 clear hr
 have R1:=hide h1;obtain⟨va1,vc1,rfl,vl1,vm1,vx1⟩:=T.yN h1
 have HX1:=hide vx1;clear vx1 h1
 have R2:=hide h2;obtain⟨va2,vc2,rfl,vl2,vm2,vx2⟩:=T.yN h2
 have HX2:=hide vx2;clear vx2 h2
 have h3i:=T.yT.1 h3;obtain⟨va3,vc3,rfl,vl3,vm3,vx3⟩:=h3i.open_
 have R3:=hide h3i;have HX3:=hide vx3;clear vx3 h3 h3i
 have HL:=hide hlt0;have HCC:=hide hc;have HB0:=hide (Below.refl w.heap.size w);clear hlt0 hc
 have hn24:x.zB.length≤24:=hP.formed.few;have hol:(xR x.zB).length=x.zB.length:=hP.order
 have HTF:=hide (fun k i (hk:(xR x.zB)[k]?=some i)=>turn_facts (frame:=frame) (vals:=(List.replicate x.zB.length 0)) hP hS List.length_replicate hk)
 have HVO:=hide (fun l v hv=>valsOf_smp hP hS hF l v hv)
 have HALL:=hide (show vE x cells frame (xR x.zB) (List.replicate x.zB.length 0)=vO x cells frame from rfl)
 have HP:=hide hP;have HS:=hide hS;have HFS:=hide hF;have hfi:=hfl;have hcl:cells.length=x.zB.length:=hS.len;clear hP hS hF hfl
 have HF:=hide hf_;have HSC:=hide hs_;clear hf_ hs_
 obtain⟨oA,oc,rfl,ol,om,ox⟩:=ho_.open_;rw[hol] at *;have HXO:=hide ox;clear ox ho_
 obtain⟨SA,sc,rfl,sl_,sm,sx⟩:=T.yN hc_
 have HSX:=hide sx;clear sx hc_;rw[hcl] at *
 have HZ:=hide (show ∀ y ∈ (List.replicate x.zB.length 0),Smp y from smp_zeros0 _)
 have p0:w.cell? ⟨b,o,none⟩=some (.int .i64 x.zJ):=(HB0.out.cell HL.out).trans (HCC.out 0 _ rfl)
 have p1:w.cell? ⟨b,o+1,none⟩=some (.slice va1 x.zN.length vc1):=(HB0.out.cell HL.out).trans (HCC.out 1 _ rfl)
 have p2:w.cell? ⟨b,o+2,none⟩=some (.slice va2 x.zB.length vc2):=(HB0.out.cell HL.out).trans (HCC.out 2 _ rfl)
 have p3:w.cell? ⟨b,o+3,none⟩=some (.slice va3 x.zK.length vc3):=(HB0.out.cell HL.out).trans (HCC.out 3 _ rfl)
 have lb:b<w.heap.size:=lL HL.out HB0.out.size
 obtain⟨i0,hi,hz0,hz1,hz2⟩:=info_parts info_i64
 go_enter Tryz.func271,Tryz.ntmps271
 go_wp2_with (at_make;refine wpList_make_full _ rfl _ _ _ rfl w.heap.size 2 i0 _ 1 Tryz.underlying26 hi hz0 hz1 .i64 .i64 _ _ x.zB.length rfl rfl rfl rfl (by rw[hz2];omega) (by unfold maxLen;omega) (Nat.le_refl _) ?_;intro w1 hown1 hg1)
 have HO1:=hide (show OwI 2 w1 w.heap.size (.slice (some ⟨w.heap.size,0,none⟩) x.zB.length x.zB.length) (vE x cells frame ((xR x.zB).take 0) (List.replicate x.zB.length 0)) from OwI.made _ w1 (n:=x.zB.length) hg1.size (by unfold maxLen;omega) 0 hown1)
 have HB1:=hide (show Below w.heap.size w w1 from(Below.refl _ _).grown hg1 (Nat.le_refl _) (by simp))
 clear hown1 hg1 p0 p1 p2 p3 lb hi hz0 hz1 hz2
 have p0:w1.cell? ⟨b,o,none⟩=some (.int .i64 x.zJ):=(HB1.out.cell HL.out).trans (HCC.out 0 _ rfl)
 have p1:w1.cell? ⟨b,o+1,none⟩=some (.slice va1 x.zN.length vc1):=(HB1.out.cell HL.out).trans (HCC.out 1 _ rfl)
 have p2:w1.cell? ⟨b,o+2,none⟩=some (.slice va2 x.zB.length vc2):=(HB1.out.cell HL.out).trans (HCC.out 2 _ rfl)
 have p3:w1.cell? ⟨b,o+3,none⟩=some (.slice va3 x.zK.length vc3):=(HB1.out.cell HL.out).trans (HCC.out 3 _ rfl)
 have lb:b<w1.heap.size:=lL HL.out HB1.out.size
 go_wp2
 go_loopw [10] (fun i wr=> ∃ k:Nat,k≤x.zB.length∧i= .int .i64 (k:Int)∧OwI 2 wr w.heap.size (.slice (some ⟨w.heap.size,0,none⟩) x.zB.length x.zB.length) (vE x cells frame ((xR x.zB).take k) (List.replicate x.zB.length 0))∧Below w.heap.size w wr) (fun i _=>x.zB.length - (intOf i).toNat)
 case atStart=>exact⟨0,Nat.zero_le _,rfl,HO1.out,HB1.out⟩
 case round=>
  obtain⟨k,hk,rfl,ho,hbw⟩:=hrel
  have HO:=hide ho;have HB:=hide hbw;clear ho hbw p0 p1 p2 p3 lb
  have p0:wr.cell? ⟨b,o,none⟩=some (.int .i64 x.zJ):=(HB.out.cell HL.out).trans (HCC.out 0 _ rfl)
  have p1:wr.cell? ⟨b,o+1,none⟩=some (.slice va1 x.zN.length vc1):=(HB.out.cell HL.out).trans (HCC.out 1 _ rfl)
  have p2:wr.cell? ⟨b,o+2,none⟩=some (.slice va2 x.zB.length vc2):=(HB.out.cell HL.out).trans (HCC.out 2 _ rfl)
  have p3:wr.cell? ⟨b,o+3,none⟩=some (.slice va3 x.zK.length vc3):=(HB.out.cell HL.out).trans (HCC.out 3 _ rfl)
  have lb:b<wr.heap.size:=lL HL.out HB.out.size
  by_cases hlt:k<x.zB.length
  rotate_left
  ·
   obtain rfl:k=x.zB.length:=by omega
   have HO2:=hide (show OwI 2 wr w.heap.size (.slice (some ⟨w.heap.size,0,none⟩) x.zB.length x.zB.length) (vO x cells frame) from by have h:=HO.out;rw[List.take_of_length_le (by have:=HP.out.order;omega),HALL.out] at h;exact h)
   go_wp2
   go_ret
   exact⟨_,rfl,HO2.out,HB.out⟩
  have hgo:=gE (show k<(xR x.zB).length by have:=HP.out.order;omega)
  obtain⟨i,hi⟩: ∃ i,(xR x.zB)[k]'(by have:=HP.out.order;omega)=i:=⟨_,rfl⟩
  rw[hi] at hgo;clear hi
  have HGO:=hide hgo;clear hgo
  obtain⟨y1,st,hi0,hin,hx,hst,_,hva,_,_⟩:=HTF.out k i HGO.out
  have HGX:=hide hx;have HST:=hide hst;have HVN:=hide hva;clear hx hst hva
  obtain⟨bo,oo,hoA,hbo,hco⟩:=HXO.out k i HGO.out
  subst hoA
  have HCO:=hide ((HB.out.cell hbo).trans hco);clear hco
  have hin2:i<(x.zB.length:Int):=by omega
  have hltN:=hin
  have hgk:=gE hltN
  obtain⟨b1,off,csy,hA,hb1,hcs,hcell⟩:=HX2.out i.toNat x.zB[i.toNat] hgk
  subst hA
  generalize x.zB[i.toNat]=y at *
  have HGN:=hide hgk;clear hgk
  have HAy:=hide (T.at_elem (o:=off+i.toNat * 4) hb1 (show T.rds w y.fs csy by simpa only[xJ.t,T.rd] using hcs) hcell (by omega));clear hcs hcell
  obtain rfl:y1=y:=by have h:=HGX.out;rw[HGN.out] at h;injection h with h;exact h.symm
  clear p0 p1 p2 p3 lb
  have p0:wr.cell? ⟨b,o,none⟩=some (.int .i64 x.zJ):=(HB.out.cell HL.out).trans (HCC.out 0 _ rfl)
  have p1:wr.cell? ⟨b,o+1,none⟩=some (.slice va1 x.zN.length vc1):=(HB.out.cell HL.out).trans (HCC.out 1 _ rfl)
  have p2:wr.cell? ⟨b,o+2,none⟩=some (.slice (some ⟨b1,off,none⟩) x.zB.length vc2):=(HB.out.cell HL.out).trans (HCC.out 2 _ rfl)
  have p3:wr.cell? ⟨b,o+3,none⟩=some (.slice va3 x.zK.length vc3):=(HB.out.cell HL.out).trans (HCC.out 3 _ rfl)
  have lb:b<wr.heap.size:=lL HL.out HB.out.size
  obtain⟨b5,o5,c5,hA5,hb5,hcs5,hcell5⟩:=HSX.out _ _ HST.out
  subst hA5
  obtain⟨v5,rfl⟩:=T.rd_one hcs5
  have e0:=hcell5 0 v5 rfl
  rw[Nat.mul_one,Nat.add_zero] at e0
  have RS:=hide (RdI.below (T.yT.1 hcs5) HB.out);have HE5:=hide ((HB.out.cell hb5).trans e0);clear hcs5 hcell5 e0
  have hvl_:(vE x cells frame ((xR x.zB).take k) (List.replicate x.zB.length 0)).length=x.zB.length:=by rw[uC,List.length_replicate]
  have HVK:=hide (HVO.out ((xR x.zB).take k) (List.replicate x.zB.length 0) HZ.out)
  have HPI:=hide (play_in HP.out HS.out HFS.out HVK.out HGX.out HST.out)
  generalize hVKe:(vE x cells frame ((xR x.zB).take k) (List.replicate x.zB.length 0))=VK at *;clear hVKe
  have HN_:=hide (HP.out.formed.nodes i.toNat y1 HGX.out)
  have HAY:=hide (T.at_below HAy.out HB.out)
  have co:=HCO.out;have lo_:bo<wr.heap.size:=lL hbo HB.out.size
  go_wp2
  clear co lo_
  have HSCw:=hide ((HB.out.cell (World.block_lt_of_cell? _ _ HSC.out)).trans HSC.out)
  have HWd:=hide (show wr.drew.cell? ⟨b,o+1,none⟩=some (.slice va1 x.zN.length vc1)∧wr.drew.cell? ⟨b,o+2,none⟩=some (.slice (some ⟨b1,off,none⟩) x.zB.length vc2)∧wr.drew.cell? ⟨bo,oo+k,none⟩=some (.int .i64 i)∧wr.drew.cell? ⟨bs,0,none⟩=some (.slice (some ⟨b5,o5,none⟩) x.zB.length sc)∧wr.drew.cell? ⟨b5,o5+i.toNat,none⟩=some v5 from⟨p1,p2,HCO.out,HSCw.out,HE5.out⟩)
  have HOd:=hide (show OwI 2 wr.drew w.heap.size (.slice (some ⟨w.heap.size,0,none⟩) x.zB.length x.zB.length) VK from wO HO.out (Below.refl wr.heap.size wr).drew);have HBd:=hide HB.out.drew;have HSd:=hide (show RdI wr.drew v5 st from RdI.below RS.out (Below.refl wr.heap.size wr).drew);have HAd:=hide (T.at_below HAY.out (Below.refl wr.heap.size wr).drew)
  have hB0:w.heap.size≤wr.drew.heap.size:=HBd.out.size
  clear p0 p1 p2 p3 lb
  refine wK (fun w'=>w'.cell? ⟨b,o+1,none⟩=some (.slice va1 x.zN.length vc1)∧w'.cell? ⟨b,o+2,none⟩=some (.slice (some ⟨b1,off,none⟩) x.zB.length vc2)∧w'.cell? ⟨bo,oo+k,none⟩=some (.int .i64 i)∧w'.cell? ⟨bs,0,none⟩=some (.slice (some ⟨b5,o5,none⟩) x.zB.length sc)∧w'.cell? ⟨b5,o5+i.toNat,none⟩=some v5) 20 (by kernel_rfl) ?_ (fun hS0=>?_)
  ·exact HWd.out
  generalize hwd:wr.drew=wd at *;clear hwd
  refine tE 0 hS0 ?_
  refine tE 1 hS0 ?_
  refine tE 2 hS0 ?_
  refine tE 3 hS0 ?_
  refine tE 4 hS0 ?_
  refine tE 5 hS0 ?_
  refine tE 6 hS0 ?_
  refine tE 7 hS0 ?_
  refine tE 8 hS0 ?_
  refine tE 9 hS0 ?_
  refine tE 11 hS0 ?_
  refine tE 12 hS0 ?_
  refine tE 13 hS0 ?_
  refine tE 14 hS0 ?_
  refine tE 15 hS0 ?_
  refine tE 16 hS0 ?_
  refine tE 17 hS0 ?_
  have lt1:=World.block_lt_of_cell? _ _ HWd.out.1;have lt3:=World.block_lt_of_cell? _ _ HWd.out.2.2.1;have lt4:=World.block_lt_of_cell? _ _ HWd.out.2.2.2.1;have lt5:=World.block_lt_of_cell? _ _ HWd.out.2.2.2.2
  refine oE 10 (fun K hK=>?_)
  go_simp
  go_wp2_with (go_at_call 284;refine(c_l08In y1 b1 (off+i.toNat * 4) frame VK fv (.slice (some ⟨w.heap.size,0,none⟩) x.zB.length x.zB.length) _ (fun e1=>⟨(xC.1 (by have ha:=HN_.out.1.a;rw[e1] at ha;simpa[kndF,kndL] using ha)).1,by rw[hfi];exact HN_.out.2.2 e1⟩) (by rw[hvl_];exact HN_.out.2.1) (by have:=arity_few HN_.out.1;omega) (RdI.below HF.out HBd.out) (OwI.rd HOd.out) HAd.out).mono ?_;rintro e w4 ⟨iv,rfl,ho,hb⟩)
  have HI4:=hide (OwI.rd ho);have HO4:=hide (wO HOd.out hb);have HB4:=hide (yJ HBd.out HBd.out.size hb);have HS4:=hide (RdI.below HSd.out hb);have HA4:=hide (T.at_below HAd.out hb);have hB4:w.heap.size≤w4.heap.size:=HB4.out.size
  have HDD:=hide hb;have HW4:=hide (show w4.cell? ⟨b,o+1,none⟩=some (.slice va1 x.zN.length vc1)∧w4.cell? ⟨b,o+2,none⟩=some (.slice (some ⟨b1,off,none⟩) x.zB.length vc2)∧w4.cell? ⟨bo,oo+k,none⟩=some (.int .i64 i)∧w4.cell? ⟨bs,0,none⟩=some (.slice (some ⟨b5,o5,none⟩) x.zB.length sc)∧w4.cell? ⟨b5,o5+i.toNat,none⟩=some v5 from⟨(hb.cell lt1).trans HWd.out.1,(hb.cell lt1).trans HWd.out.2.1,(hb.cell lt3).trans HWd.out.2.2.1,(hb.cell lt4).trans HWd.out.2.2.2.1,(hb.cell lt5).trans HWd.out.2.2.2.2⟩);clear ho hb
  refine uE hK ?_ (fun hS1=>?_)
  ·exact HW4.out
  clear hK K hS0
  refine oE 18 (fun K hK=>?_)
  go_simp
  go_wp2_with (go_at_call 283;refine(c_l06Out y1 b1 (off+i.toNat * 4) x.zN _ st _ _ _ _ HPI.out (T.yF R1.out HB4.out) HI4.out HS4.out HA4.out).mono ?_;rintro e w5 ⟨rfl,hb⟩)
  have HO5:=hide (show OwI 2 w5 w.heap.size (.slice (some ⟨w.heap.size,0,none⟩) x.zB.length x.zB.length) VK from wO HO4.out hb);have HB5:=hide (yJ HB4.out HB4.out.size hb)
  have HW5:=hide (show w5.cell? ⟨b,o+1,none⟩=some (.slice va1 x.zN.length vc1)∧w5.cell? ⟨b,o+2,none⟩=some (.slice (some ⟨b1,off,none⟩) x.zB.length vc2)∧w5.cell? ⟨bo,oo+k,none⟩=some (.int .i64 i)∧w5.cell? ⟨bs,0,none⟩=some (.slice (some ⟨b5,o5,none⟩) x.zB.length sc)∧w5.cell? ⟨b5,o5+i.toNat,none⟩=some v5 from⟨((yJ HDD.out HDD.out.size hb).cell lt1).trans HWd.out.1,((yJ HDD.out HDD.out.size hb).cell lt1).trans HWd.out.2.1,((yJ HDD.out HDD.out.size hb).cell lt3).trans HWd.out.2.2.1,((yJ HDD.out HDD.out.size hb).cell lt4).trans HWd.out.2.2.2.1,((yJ HDD.out HDD.out.size hb).cell lt5).trans HWd.out.2.2.2.2⟩);clear hb
  refine uE hK ?_ (fun hS2=>?_)
  ·exact HW5.out
  clear hK K hS1
  refine tE 19 hS2 ?_
  refine wJ (o:=_) (by kernel_rfl) rfl (by kernel_rfl) ?_
  have hgv:=gE (show i.toNat<VK.length by omega)
  have ck:=HO5.out.cellN hgv;have fr:=HO5.out.freeN i.toNat;have lv:=(HO5.out.lt w.heap.size rfl).2;clear hgv
  go_wp2
  have HO6:=hide (HO5.out.setN i.toNat (xW y1 x.zN (inF y1 frame VK) st));have HG6:=hide (HO5.out.grownN i.toNat (.int .i64 (xW y1 x.zN (inF y1 frame VK) st)))
  go_roundw
  case rel=>exact⟨k+1,by omega,by go_num,by rw[HVN.out];exact HO6.out,HB5.out.grown HG6.out HB5.out.size (fun j hj=>by injection hj with hj;omega)⟩
  case measure=>simp[intOf];omega
theorem c_l08Step (x:xG) (b o:Nat) (cells:List (List Int)) (frame vals:List Int) (bs:Nat) (vc vv fv:Value) (w:World) (hP:wZ x) (hS:StOk x cells) (hF: ∀ y ∈ frame,Smp y) (hfl:(frame.length:Int)=x.zJ) (hV: ∀ y ∈ vals,Smp y) (hvl:vals.length=x.zB.length) (hs_:Bk w bs 270 #[vc]) (hc_:T.rd w (T.sl 26 1 (cells.map (T.ints 2))) [vc]) (hf_:RdI w fv frame) (hv_:RdI w vv vals) (h:T.at w x.fs b o):Calls Tryz.prog 272 #[.pointer (some ⟨b,o,none⟩),.pointer (some ⟨bs,0,none⟩),fv,vv] w fun e w'=> ∃ v' F,e= .returned (.tuple #[])∧Bk w' bs 270 #[v']∧Own w.heap.size w' (T.sl 26 1 ((vM x cells frame vals).map (T.ints 2))) F v'∧Trn [bs] w w':=by
 have HAT:=hide h
 obtain⟨hlt0,cs,hr,hc⟩:=h
 obtain⟨v1,v2,v3,rfl,h1,h2,h3⟩:=xG.yO hr
 clear hr
 have R1:=hide h1;obtain⟨va1,vc1,rfl,vl1,vm1,vx1⟩:=T.yN h1
 have HX1:=hide vx1;clear vx1 h1
 have R2:=hide h2;obtain⟨va2,vc2,rfl,vl2,vm2,vx2⟩:=T.yN h2
 have HX2:=hide vx2;clear vx2 h2
 have h3i:=T.yT.1 h3;obtain⟨va3,vc3,rfl,vl3,vm3,vx3⟩:=h3i.open_
 have R3:=hide h3i;have HX3:=hide vx3;clear vx3 h3 h3i
 have HL:=hide hlt0;have HCC:=hide hc;have HB0:=hide (Below.refl w.heap.size w);clear hlt0 hc
 have hn24:x.zB.length≤24:=hP.formed.few
 have hCL:(vM x cells frame vals).length=x.zB.length:=length_cellsF
 have HCA:=hide (fun i y (h:x.zB[i]?=some y)=>cellsF_at (cells:=cells) (frame:=frame) (vals:=vals) h);have HSG:=hide (fun i y (h:x.zB[i]?=some y)=>st_get hS h)
 have HPY:=hide (fun i y st (h1:x.zB[i]?=some y) (h2:cells[i]?=some st)=>play_in hP hS hF hV h1 h2)
 have HP:=hide hP;have hfi:=hfl;have hcl:cells.length=x.zB.length:=hS.len;clear hP hS hF hV hfl
 have HF:=hide hf_;have HVV:=hide hv_;have HSC:=hide hs_;clear hf_ hs_
 have HVL:=hide (show (fun l:List Int=>l.length) vals=x.zB.length from hvl)
 obtain⟨vA,vcap,rfl,vl_,vm_,vx_⟩:=hv_.open_;have HVX:=hide vx_;clear vx_ hv_;rw[hvl] at *
 obtain⟨SA,sc,rfl,sl_,sm,sx⟩:=T.yN hc_
 have HSX:=hide sx;clear sx hc_;rw[hcl] at *
 generalize hD:vM x cells frame vals=D at *;have HDq:=hide hD;clear hD
 have p0:w.cell? ⟨b,o,none⟩=some (.int .i64 x.zJ):=(HB0.out.cell HL.out).trans (HCC.out 0 _ rfl)
 have p1:w.cell? ⟨b,o+1,none⟩=some (.slice va1 x.zN.length vc1):=(HB0.out.cell HL.out).trans (HCC.out 1 _ rfl)
 have p2:w.cell? ⟨b,o+2,none⟩=some (.slice va2 x.zB.length vc2):=(HB0.out.cell HL.out).trans (HCC.out 2 _ rfl)
 have p3:w.cell? ⟨b,o+3,none⟩=some (.slice va3 x.zK.length vc3):=(HB0.out.cell HL.out).trans (HCC.out 3 _ rfl)
 have lb:b<w.heap.size:=lL HL.out HB0.out.size
 have ks:=HSC.out.cell;have ls:=HSC.out.lt
 have HO0:=hide (Own.born (World.ownsRow_made w #[] 0 (Nat.le_refl _) (by decide) rfl:(w.alloc (.cells #[] 26)).ownsRow w.heap.size 26 1 (.slice (some ⟨w.heap.size,0,none⟩) 0 0) 0 []))
 have HB1:=hide (show Below w.heap.size w (w.alloc (.cells #[] 26)) from(Below.refl _ _).alloc (Nat.le_refl _) _)
 go_enter Tryz.func272,Tryz.ntmps272
 go_wp2
 go_loopw [8,9] (fun r i wr=> ∃ k F,k≤x.zB.length∧i= .int .i64 (k:Int)∧Own w.heap.size wr (T.sl 26 1 ((D.take k).map (T.ints 2))) F r∧Below w.heap.size w wr) (fun _ i _=>x.zB.length - (intOf i).toNat)
 case atStart=>exact⟨0,_,Nat.zero_le _,rfl,by rw[List.take_zero];exact HO0.out,HB1.out⟩
 case round=>
  obtain⟨k,F,hk,rfl,ho,hbw⟩:=hrel
  have HO:=hide ho;have HB:=hide hbw;have hs0:=hbw.size;clear ho hbw p0 p1 p2 p3 lb ks ls
  have p0:wr.cell? ⟨b,o,none⟩=some (.int .i64 x.zJ):=(HB.out.cell HL.out).trans (HCC.out 0 _ rfl)
  have p1:wr.cell? ⟨b,o+1,none⟩=some (.slice va1 x.zN.length vc1):=(HB.out.cell HL.out).trans (HCC.out 1 _ rfl)
  have p2:wr.cell? ⟨b,o+2,none⟩=some (.slice va2 x.zB.length vc2):=(HB.out.cell HL.out).trans (HCC.out 2 _ rfl)
  have p3:wr.cell? ⟨b,o+3,none⟩=some (.slice va3 x.zK.length vc3):=(HB.out.cell HL.out).trans (HCC.out 3 _ rfl)
  have lb:b<wr.heap.size:=lL HL.out HB.out.size
  have HSw:=hide (HSC.out.below HB.out HSC.out.lt);have ks:=HSw.out.cell;have ls:=HSw.out.lt
  by_cases hlt:k<x.zB.length
  rotate_left
  ·
   obtain rfl:k=x.zB.length:=by omega
   obtain⟨A8,l8,c8,rfl⟩:=T.yV (T.ow_rd _ _ _ HO.out.ow)
   have fs:=HSw.out.free 0
   go_wp2
   go_end0
   have hnf:bs ∉ F:=fun hm=>by have h1:=HO.out.lo bs hm;have h2:=HSC.out.lt;omega
   refine⟨.slice A8 l8 c8,F,rfl,by have:=HSw.out.set_ 0 (.slice A8 l8 c8);simpa using this,?_,(Trn.of_below HB.out).trans (Trn.set_ (g:=bs) (by simp) 0 _)⟩
   have h:=(HO.out.trn (Trn.set_ (F:= [bs]) (g:=bs) (by simp) 0 (.slice A8 l8 c8)) (fun b hb hm=>by simp at hm;subst hm;exact hnf hb))
   rw[List.take_of_length_le (by omega)] at h
   exact h
  have hgk:=gE hlt
  obtain⟨b1,off,csy,hA,hb1,hcs,hcell⟩:=HX2.out k x.zB[k] hgk
  subst hA
  generalize x.zB[k]=y at *
  have HG:=hide hgk;clear hgk
  have HAy:=hide (T.at_elem (o:=off+k * 4) hb1 (show T.rds w y.fs csy by simpa only[xJ.t,T.rd] using hcs) hcell (by omega));clear hcs hcell
  clear p0 p1 p2 p3 lb
  have p0:wr.cell? ⟨b,o,none⟩=some (.int .i64 x.zJ):=(HB.out.cell HL.out).trans (HCC.out 0 _ rfl)
  have p1:wr.cell? ⟨b,o+1,none⟩=some (.slice va1 x.zN.length vc1):=(HB.out.cell HL.out).trans (HCC.out 1 _ rfl)
  have p2:wr.cell? ⟨b,o+2,none⟩=some (.slice (some ⟨b1,off,none⟩) x.zB.length vc2):=(HB.out.cell HL.out).trans (HCC.out 2 _ rfl)
  have p3:wr.cell? ⟨b,o+3,none⟩=some (.slice va3 x.zK.length vc3):=(HB.out.cell HL.out).trans (HCC.out 3 _ rfl)
  have lb:b<wr.heap.size:=lL HL.out HB.out.size
  obtain⟨st,hst,hsd⟩:=HSG.out k y HG.out
  have HST:=hide hst;have HCK:=hide (show D[k]?=some (xN y (inF y frame vals) st (vals.getD k 0)) from by have h:=HCA.out k y HG.out;rw[hsd] at h;exact h)
  have HPI:=hide (HPY.out k y st HG.out hst);clear hst hsd
  obtain⟨b5,o5,c5,hA5,hb5,hcs5,hcell5⟩:=HSX.out _ _ HST.out
  subst hA5
  obtain⟨v5,rfl⟩:=T.rd_one hcs5
  have e0:=hcell5 0 v5 rfl
  rw[Nat.mul_one,Nat.add_zero] at e0
  have RS:=hide (RdI.below (T.yT.1 hcs5) HB.out);have HE5:=hide ((HB.out.cell hb5).trans e0);clear hcs5 hcell5 e0
  have hkv:k<vals.length:=by have h:vals.length=x.zB.length:=HVL.out;omega
  have hgv:=gE hkv
  obtain⟨bv,ov,hAv,hbv,hcv⟩:=HVX.out k _ hgv
  subst hAv
  have HVD:=hide (show vals.getD k 0=(vals[k]'hkv) by rw[List.getD_eq_getElem?_getD,hgv];rfl)
  have HCV:=hide ((HB.out.cell hbv).trans hcv);clear hcv hgv
  generalize (vals[k]'hkv)=z at *
  have HN_:=hide (HP.out.formed.nodes k y HG.out)
  have HAY:=hide (T.at_below HAy.out HB.out)
  go_wp2
  have HWr:=hide (show wr.cell? ⟨b,o+2,none⟩=some (.slice (some ⟨b1,off,none⟩) x.zB.length vc2)∧wr.cell? ⟨bs,0,none⟩=some (.slice (some ⟨b5,o5,none⟩) x.zB.length sc)∧wr.cell? ⟨b5,o5+k,none⟩=some v5∧wr.cell? ⟨bv,ov+k,none⟩=some (.int .i64 z) from⟨p2,ks 0,HE5.out,HCV.out⟩)
  have HKP:=hide (show ∀ w',Below wr.heap.size wr w'→w'.cell? ⟨b,o+2,none⟩=some (.slice (some ⟨b1,off,none⟩) x.zB.length vc2)∧w'.cell? ⟨bs,0,none⟩=some (.slice (some ⟨b5,o5,none⟩) x.zB.length sc)∧w'.cell? ⟨b5,o5+k,none⟩=some v5∧w'.cell? ⟨bv,ov+k,none⟩=some (.int .i64 z) from fun w' hw=>⟨(hw.cell (World.block_lt_of_cell? _ _ HWr.out.1)).trans HWr.out.1,(hw.cell (World.block_lt_of_cell? _ _ HWr.out.2.1)).trans HWr.out.2.1,(hw.cell (World.block_lt_of_cell? _ _ HWr.out.2.2.1)).trans HWr.out.2.2.1,(hw.cell (World.block_lt_of_cell? _ _ HWr.out.2.2.2)).trans HWr.out.2.2.2⟩)
  have HKP2:=hide (show ∀ w',Below w.heap.size w w'→w'.cell? ⟨b,o+2,none⟩=some (.slice (some ⟨b1,off,none⟩) x.zB.length vc2)∧w'.cell? ⟨bs,0,none⟩=some (.slice (some ⟨b5,o5,none⟩) x.zB.length sc)∧w'.cell? ⟨b5,o5+k,none⟩=some v5∧w'.cell? ⟨bv,ov+k,none⟩=some (.int .i64 z) from fun w' hw=>⟨(hw.cell HL.out).trans ((HB.out.cell HL.out).symm.trans HWr.out.1),(hw.cell HSC.out.lt).trans ((HB.out.cell HSC.out.lt).symm.trans HWr.out.2.1),(hw.cell hb5).trans ((HB.out.cell hb5).symm.trans HWr.out.2.2.1),(hw.cell hbv).trans ((HB.out.cell hbv).symm.trans HWr.out.2.2.2)⟩)
  have HDr:=hide ((Below.refl wr.heap.size wr).drew)
  clear p0 p1 p2 p3 lb ks ls
  refine wE (fun w'=>w'.cell? ⟨b,o+2,none⟩=some (.slice (some ⟨b1,off,none⟩) x.zB.length vc2)∧w'.cell? ⟨bs,0,none⟩=some (.slice (some ⟨b5,o5,none⟩) x.zB.length sc)∧w'.cell? ⟨b5,o5+k,none⟩=some v5∧w'.cell? ⟨bv,ov+k,none⟩=some (.int .i64 z)) [] (by kernel_rfl) ?_ (fun hS0=>?_)
  ·exact HKP.out _ HDr.out
  generalize hwd:wr.drew=wd at *;clear hwd
  refine tN 0 hS0 ?_
  refine tN 1 hS0 ?_
  refine tN 2 hS0 ?_
  refine tN 3 hS0 ?_
  refine tN 4 hS0 ?_
  refine tN 6 hS0 ?_
  refine tN 7 hS0 ?_
  refine tN 8 hS0 ?_
  refine tN 9 hS0 ?_
  refine tN 10 hS0 ?_
  refine tN 11 hS0 ?_
  refine tN 12 hS0 ?_
  refine tN 13 hS0 ?_
  refine tN 14 hS0 ?_
  refine tN 15 hS0 ?_
  refine tN 16 hS0 ?_
  refine oN 5 (fun K hK=>?_)
  go_simp
  go_wp2_with (go_at_call 284;refine(c_l08In y b1 (off+k * 4) frame vals fv _ _ (fun e1=>⟨(xC.1 (by have ha:=HN_.out.1.a;rw[e1] at ha;simpa[kndF,kndL] using ha)).1,by rw[hfi];exact HN_.out.2.2 e1⟩) (by rw[show vals.length=x.zB.length from HVL.out];exact HN_.out.2.1) (by have:=arity_few HN_.out.1;omega) (RdI.below HF.out (yJ HB.out HB.out.size HDr.out)) (RdI.below HVV.out (yJ HB.out HB.out.size HDr.out)) (T.at_below HAY.out HDr.out)).mono ?_;rintro e w4 ⟨iv,rfl,ho,hb⟩)
  have HI4:=hide (OwI.rd ho);have HD4:=hide (yJ HDr.out HDr.out.size hb);clear ho hb
  refine uN hK ?_ (fun hS1=>?_)
  ·exact HKP.out _ HD4.out
  clear hK K hS0
  try simp only[Act.put,List.setIfInBounds_toArray,List.set_cons_zero,List.set_cons_succ]
  refine oN 17 (fun K hK=>?_)
  go_simp
  go_wp2_with (go_at_call 285;refine(c_l06Next y b1 (off+k * 4) x.zN _ st _ _ z _ HPI.out HI4.out (RdI.below RS.out HD4.out) (T.at_below HAY.out HD4.out)).mono ?_;rintro e w5 ⟨nv,rfl,ho,hb⟩)
  have HN5:=hide (Nv.ints ho hb);obtain⟨nA,nl,nc,rfl⟩: ∃ A l c,nv= .slice A l c:=by obtain⟨A,c,e,_⟩:=(T.yT.1 (T.ow_rd _ _ _ HN5.out.ow)).open_;exact⟨A,_,c,e⟩
  have HD5:=hide (yJ HD4.out HD4.out.size hb);have HZ4:=hide (Nat.le_trans hs0 HD4.out.size);clear ho hb
  refine uN hK ?_ (fun hS2=>?_)
  ·exact HKP.out _ HD5.out
  clear hK K hS1
  try simp only[Act.put,List.setIfInBounds_toArray,List.set_cons_zero,List.set_cons_succ]
  have HA6:=hide (show Below w5.heap.size w5 (w5.alloc (.cells #[.slice nA nl nc] 26)) from(Below.refl _ _).alloc (Nat.le_refl _) _);have HD6:=hide (yJ HD5.out HD5.out.size HA6.out)
  refine oN 18 (fun K hK=>?_)
  go_simp
  refine uN hK ?_ (fun hS3=>?_)
  ·exact HKP.out _ HD6.out
  clear hK K hS2
  have hdl:(D.take k).length≤24:=by rw[List.length_take];omega
  refine oN 19 (fun K hK=>?_)
  refine step1_T rfl _ _ _ rfl w.heap.size _ _ 1 24 Tryz.underlying24 wU rfl (by omega) rfl (HO.out.all HD6.out) rfl (Bk.born _ _ _) (x:=T.ints 2 (xN y (inF y frame vals) st z)) (T.ow_all HN5.out.ow HA6.out) HN5.out.nodup (fun b hb=>by have h1:=HN5.out.lo b hb;exact Nat.le_trans HZ4.out h1) (fun b hb hb2=>by have h1:=HO.out.lt b hb;have h2:=HN5.out.lo b hb2;have h3:=HD4.out.size;omega) rfl (by rw[List.length_map];omega) (by rw[List.length_map];unfold maxLen;omega) (Nat.le_trans hs0 HD6.out.size) ?_;intro v8 w8 F8 ho hg hv
  have HO8:=hide ho;have HB8:=hide ((HO.out.all HD6.out).below (yJ HB.out HB.out.size HD6.out) (Nat.le_trans hs0 HD6.out.size) hg)
  have HG8:=hide (Trn.of_grown hg);clear ho hg hv
  refine uN hK ?_ (fun hS4=>?_)
  ·exact HKP2.out w8 HB8.out
  clear hK K hS3
  refine oN 20 (fun K hK=>?_)
  go_simp
  refine uN hK ?_ (fun hS5=>?_)
  ·exact HKP2.out w8 HB8.out
  clear hK K hS4
  refine xY (by kernel_rfl) ?_
  clear hS5
  go_wp2
  go_roundw
  case rel=>exact⟨k+1,F8,by omega,by go_num,by rw[xQ HCK.out,List.map_append,HVD.out];exact HO8.out,HB8.out⟩
  case measure=>simp[intOf];omega
end Go.Proofs.YtoibekfhepnedaaGreat
