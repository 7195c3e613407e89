/- Contracts: what the sends of a mixer wait, both sides. -/
import Derived.Test.YtoibekfhepnedaaGreatQAzExactMakeCache
import Derived.Test.YtoibekfhepnedaaGreatQAxExactMakeCache
import Derived.Test.YtoibekfhepnedaaGreatQArExactMakeCache
set_option linter.unusedVariables false
set_option linter.unusedSimpArgs false
set_option maxHeartbeats 8000000
set_option maxRecDepth 100000
namespace Go.Proofs.YtoibekfhepnedaaGreat
open Go.RowKit
theorem length_delaysF (x:xU):(wX x).length=x.zC.length:=by simp[wX]
theorem delays_at {x:xU} {k:Nat} {y:xH} (h:x.zC[k]?=some y):(wX x)[k]?=some (y.zM.map (uD (xV x) k y)):=by
 unfold wX;rw[List.getElem?_mapIdx,h];rfl
theorem ent_at {x:xU} (h:vU x) {j:Nat} (hj:j<x.zC.length): ∃ t,(xV x)[j]?=some t∧(xV x).getD j 0=t∧0≤t∧t≤256:=by
 have hg:=gE (show j<(xV x).length by rw[vG];exact hj)
 have hu:=zBz h j
 rw[List.getD_eq_getElem?_getD,hg] at hu
 exact⟨_,hg,by rw[List.getD_eq_getElem?_getD,hg];rfl,hu.1,hu.2⟩
theorem c_delays (x:xU) (cs:List Value) (w:World) (hM:vU x) (hg:x.good) (h:T.rds w x.fs cs):Calls Tryz.prog 192 #[.agg cs.toArray] w fun e w'=> ∃ v F,e= .returned v∧Own w.heap.size w' (T.sl 26 1 ((wX x).map (T.ints 2))) F v∧Below w.heap.size w w':=by
 obtain⟨v0,rfl,h0⟩:=xU.yO h
 clear h
 have R0:=hide h0;obtain⟨va0,vc0,rfl,vl0,vm0,vx0⟩:=T.yN h0
 have HX0:=hide vx0;clear vx0 h0
 have HB0:=hide (show Below w.heap.size w (w.alloc (.cells #[(.slice va0 x.zC.length vc0)] 30)) from(Below.refl _ _).alloc (Nat.le_refl _) _)
 have HK0:=hide (Bk.born w 30 #[(.slice va0 x.zC.length vc0)])
 have HM:=hide hM;have HGD:=hide hg;have hn8:x.zC.length≤8:=hM.few;have hn1:1≤x.zC.length:=hM.some_;clear hM hg
 have HDL:=hide (length_delaysF x);have HDA:=hide (fun k y (h:x.zC[k]?=some y)=>delays_at h)
 go_enter Tryz.func192,Tryz.ntmps192
 go_wp2_with fail
 refine(c_entries x _ _ HM.out HGD.out (xU.rd_mk (T.yF R0.out HB0.out))).mono ?_;rintro e w1 ⟨vT,rfl,ho,hd⟩
 have hel:(xV x).length=x.zC.length:=vG x
 obtain⟨bT,oT,cT,rfl,hc1,hc2,hbT,hcT⟩:=xO (OwI.rd ho) (by omega)
 rw[hel] at hc1
 have HTC:=hide hcT;clear hcT ho
 have hb:Below (w.alloc (.cells #[(.slice va0 x.zC.length vc0)] 30)).heap.size (w.alloc (.cells #[(.slice va0 x.zC.length vc0)] 30)) w1:=by first|exact hd|exact hd.to_below _|exact hd ▸ Below.refl _ _
 have HK1:=hide (HK0.out.below hb HK0.out.lt);have HB1:=hide (yJ HB0.out HB0.out.size hb);clear hb hd;have ka:=HK1.out.cell;have la:=HK1.out.lt
 have HO0:=hide (Own.born (World.ownsRow_made w1 #[] 0 (Nat.le_refl _) (by decide) rfl:(w1.alloc (.cells #[] 26)).ownsRow w1.heap.size 26 1 (.slice (some ⟨w1.heap.size,0,none⟩) 0 0) 0 []))
 have HB1':=hide (show Below w1.heap.size w1 (w1.alloc (.cells #[] 26)) from(Below.refl _ _).alloc (Nat.le_refl _) _)
 generalize hD:wX x=D at *;have HDq:=hide hD;clear hD
 have hDl:D.length=x.zC.length:=HDL.out
 go_wp2
 go_loopw [4,16] (fun r i wr=> ∃ k F,k≤x.zC.length∧i= .int .i64 (k:Int)∧Own w1.heap.size wr (T.sl 26 1 ((D.take k).map (T.ints 2))) F r∧Below w1.heap.size w1 wr) (fun _ i _=>x.zC.length - (intOf i).toNat)
 case atStart=>exact⟨0,_,Nat.zero_le _,rfl,by rw[List.take_zero];exact HO0.out,HB1'.out⟩
 case round=>
  obtain⟨k,F,hk,rfl,ho,hbw⟩:=hrel
  have HO:=hide ho;have HBr:=hide hbw;have hs0:=hbw.size;have HB:=hide (yJ HB1.out HB1.out.size hbw);have HK:=hide (HK1.out.below hbw HK1.out.lt);clear ho hbw ka la
  have ka:=HK.out.cell;have la:=HK.out.lt
  by_cases hlt:k<x.zC.length
  rotate_left
  ·
   obtain rfl:k=x.zC.length:=by omega
   go_wp2
   go_ret
   exact⟨_,F,rfl,by have h:=HO.out;rw[List.take_of_length_le (by omega)] at h;rw[HDq.out];exact h.more HB1.out.size,HB.out⟩
  have hgk:=gE hlt
  obtain⟨b1,off,cs1,hA,hb1,hcs,hcell⟩:=HX0.out k x.zC[k] hgk
  subst hA
  generalize x.zC[k]=y at *
  have HG:=hide hgk;clear hgk
  obtain⟨u2,rfl,hRY2⟩:=xH.yO (show T.rds _ _ _ by simpa only[xH.t,T.rd] using hcs)
  have d0:=(HB.out.cell hb1).trans (hcell 0 (.string y.zV) rfl)
  have d1:=(HB.out.cell hb1).trans (hcell 1 (.int .i64 y.zI) rfl)
  have d2:=(HB.out.cell hb1).trans (hcell 2 (u2) rfl)
  rw[show off+(k * 3+0)=off+k * 3 by omega] at d0
  rw[show off+(k * 3+1)=off+k * 3+1 by omega] at d1
  rw[show off+(k * 3+2)=off+k * 3+2 by omega] at d2
  have RY2:=hide (T.yF hRY2 HB.out);clear hRY2
  clear hcs hcell
  obtain⟨ua2,uc2,rfl,ul2,um2,ux2⟩:=T.yN RY2.out;clear ux2
  have hq1:b1<wr.heap.size:=lL hb1 HB.out.size
  obtain⟨b9,o9,cs9,hA9,hb9,hcs9,hcell9⟩:=HX0.out k y HG.out
  obtain⟨rfl,rfl⟩:b1=b9∧off=o9:=by injection hA9 with e;injection e with e1 e2;exact⟨e1,e2⟩
  obtain⟨v9,rfl,hv9⟩:=xH.yO (show T.rds _ _ _ by simpa only[xH.t,T.rd] using hcs9)
  have e9:=(HB.out.cell hb9).trans (hcell9 2 v9 rfl)
  rw[show off+(k * 3+2)=off+k * 3+2 by omega] at e9
  obtain rfl:v9= .slice ua2 y.zM.length uc2:=Option.some.inj (e9.symm.trans d2)
  have UX2:=hide (rd_elems2 hv9);clear hv9 e9 hcell9 hcs9 hA9
  have HNM:=hide (HM.out.each k y HG.out).1
  have hlat:=uL.1 HNM.out.latency
  have HRX:=hide (show Below wr.heap.size wr (wr.alloc (.cells #[.string y.zV,.int .i64 y.zI,(.slice ua2 y.zM.length uc2)] 101)) from(Below.refl _ _).alloc (Nat.le_refl _) _)
  have HBX:=hide (yJ HBr.out HBr.out.size HRX.out);have HNX:=hide (Bk.born wr 101 #[.string y.zV,.int .i64 y.zI,(.slice ua2 y.zM.length uc2)]);have HOX0:=hide (HO.out.all HRX.out)
  have hBX:wr.heap.size<(wr.alloc (.cells #[.string y.zV,.int .i64 y.zI,(.slice ua2 y.zM.length uc2)] 101)).heap.size:=HNX.out.lt
  have HRG:=hide (HDA.out k y HG.out)
  have kn:=HNX.out.cell;have ln:=HNX.out.lt
  go_wp2
  have hWXs:(wr.alloc (.cells #[.string y.zV,.int .i64 y.zI,(.slice ua2 y.zM.length uc2)] 101)).heap.size=wr.heap.size+1:=by simp
  have HWS:=hide hWXs;clear hWXs
  generalize hWX:(wr.alloc (.cells #[.string y.zV,.int .i64 y.zI,(.slice ua2 y.zM.length uc2)] 101))=WX at *;clear hWX
  generalize hB1:wr.heap.size=B1 at *
  have HB1q:=hide hB1;clear hB1
  go_loopw [7,25] (fun l i wr=> ∃ q:Nat,q≤y.zM.length∧i= .int .i64 (q:Int)∧OwI 2 wr WX.heap.size l ((y.zM.take q).map (uD (xV x) k y))∧Below WX.heap.size WX wr) (fun _ i _=>y.zM.length - (intOf i).toNat)
  case atStart=>exact⟨0,Nat.zero_le _,rfl,by have h:=vC WX;rw[HWS.out] at h ⊢;exact h,(Below.refl _ _).alloc (Nat.le_refl _) _⟩
  case round=>
   obtain⟨q,hq,rfl,ho,hbw⟩:=hrel
   have HOi:=hide ho;have HWi:=hide hbw;have hsi:=hbw.size;clear ho hbw ka la kn ln
   have HBi:=hide (yJ HB1.out HB1.out.size (yJ HBX.out HBX.out.size HWi.out))
   have HNi:=hide (HNX.out.below HWi.out HNX.out.lt)
   have kn:=HNi.out.cell;have ln:=HNi.out.lt
   by_cases hlq:q<y.zM.length
   rotate_left
   ·
    obtain rfl:q=y.zM.length:=by omega
    obtain⟨A1,c1,hl1,-,-,-⟩:=HOi.out.rd.open_;rw[show ((y.zM.take y.zM.length).map (uD (xV x) k y)).length=y.zM.length by rw[List.take_length,List.length_map]] at hl1;subst hl1
    have HN1:=hide (Nv.ints HOi.out HWi.out);have HOX:=hide (HOX0.out.all HWi.out);have HB1r:=hide (yJ HBX.out HBX.out.size HWi.out)
    have hs0':w1.heap.size≤WX.heap.size:=HBX.out.size
    rw[List.take_length] at HN1
    go_wp2_with (at_builtin;refine app1_T rfl _ _ _ rfl w1.heap.size 26 _ 1 24 Tryz.underlying24 wU rfl (by omega) rfl HOX.out HN1.out.ow HN1.out.nodup (fun b hb=>Nat.le_trans hs0' (HN1.out.lo b hb)) (fun b hb hb2=>by have h1:=HO.out.lt b hb;have h2:=HN1.out.lo b hb2;have h3:=HB1q.out;omega) rfl rfl (by rw[List.length_map,List.length_take];omega) (by rw[List.length_map,List.length_take];omega) HB1r.out.size ?_;intro v8 w8 F8 ho8 hg8 hv8;have HO8:=hide ho8;have HB8:=hide (HOX.out.below HB1r.out HB1r.out.size hg8);clear ho8 hg8 hv8)
    go_roundw
    case rel=>exact⟨k+1,F8,by omega,by go_num,by rw[xQ HRG.out,List.map_append];exact HO8.out,HB8.out⟩
    case measure=>simp[intOf];omega
   have hgq:=gE hlq
   obtain⟨b2,off2,cs2,hA2,hb2,hcs2,hcell2⟩:=UX2.out q y.zM[q] hgq
   subst hA2
   generalize y.zM[q]=z at *
   have HGZ:=hide hgq;clear hgq
   obtain rfl:=xM.yO (show T.rds _ _ _ by simpa only[xM.t,T.rd] using hcs2)
   have s0:=(HBi.out.cell hb2).trans (hcell2 0 (.int .i64 z.zW) rfl)
   have s1:=(HBi.out.cell hb2).trans (hcell2 1 (.int .i64 z.zS) rfl)
   rw[show off2+(q * 2+0)=off2+q * 2 by omega] at s0
   rw[show off2+(q * 2+1)=off2+q * 2+1 by omega] at s1
   clear hcs2 hcell2
   have lb2:b2<wr.heap.size:=lL hb2 HBi.out.size
   obtain⟨t0,t1,_⟩:=vX HM.out HG.out q z HGZ.out
   have n0:0≤z.zW:=by omega
   obtain⟨ta,ga,da,a0,a1⟩:=ent_at HM.out (show z.zW.toNat<x.zC.length by omega)
   obtain⟨tb,gb,db,c0,c1⟩:=ent_at HM.out hlt
   have HWN:=hide (show uD (xV x) k y z=ta - tb - y.zI by unfold uD;rw[da,db]);clear da db
   have HCA:=hide (HTC.out _ _ ga);have HCB:=hide (HTC.out _ _ gb);clear ga gb
   have hzl:z.zW<(x.zC.length:Int):=t1
   have hw1:IntKind.i64.wrap (ta - tb)=ta - tb:=IntWalk.i64_in _ (by omega)
   have hw2:IntKind.i64.wrap (ta - tb - y.zI)=ta - tb - y.zI:=IntWalk.i64_in _ (by omega)
   have HAZ:=hide (show Below wr.heap.size wr (wr.alloc (.cells #[.int .i64 z.zW,.int .i64 z.zS] 98)) from(Below.refl _ _).alloc (Nat.le_refl _) _)
   have HZz:=hide (Bk.born wr 98 #[.int .i64 z.zW,.int .i64 z.zS]);have HNz:=hide (HNi.out.below HAZ.out HNi.out.lt);have HOz:=hide (wO HOi.out HAZ.out);have HBz:=hide (yJ HWi.out HWi.out.size HAZ.out)
   have HLT:=hide (fun j hj=>(HOi.out.lt j hj).2)
   have lT:bT<WX.heap.size:=lL hbT HBX.out.size
   have HCX:=hide (And.intro ((HBX.out.cell hbT).trans HCA.out) ((HBX.out.cell hbT).trans HCB.out))
   have HCAz:=hide ((HBz.out.cell lT).trans ((HBX.out.cell hbT).trans HCA.out));have HCBz:=hide ((HBz.out.cell lT).trans ((HBX.out.cell hbT).trans HCB.out))
   clear kn ln;have kn:=HNz.out.cell;have ln:=HNz.out.lt;have kz:=HZz.out.cell;have lz:=HZz.out.lt
   go_wp2
   generalize hWZ:(wr.alloc (.cells #[.int .i64 z.zW,.int .i64 z.zS] 98))=WZ at *;clear hWZ
   generalize hB2:wr.heap.size=B2 at *;clear kn ln kz lz
   have HWd:=hide (show (∀ i,WZ.drew.cell? ⟨B2,i,none⟩= #[.int .i64 z.zW,.int .i64 z.zS][i]?)∧(∀ i,WZ.drew.cell? ⟨B1,i,none⟩= #[.string y.zV,.int .i64 y.zI,(.slice (some ⟨b2,off2,none⟩) y.zM.length uc2)][i]?)∧WZ.drew.cell? ⟨bT,oT+z.zW.toNat,none⟩=some (.int .i64 ta)∧WZ.drew.cell? ⟨bT,oT+k,none⟩=some (.int .i64 tb) from⟨HZz.out.cell,HNz.out.cell,HCAz.out,HCBz.out⟩)
   have HOd:=hide (show OwI 2 WZ.drew WX.heap.size _ _ from wO HOz.out (Below.refl WZ.heap.size WZ).drew);have HBd:=hide HBz.out.drew;have HNd:=hide (Bk.drew HNz.out);have HZd:=hide (Bk.drew HZz.out)
   refine wE (fun w'=>(∀ i,w'.cell? ⟨B2,i,none⟩= #[.int .i64 z.zW,.int .i64 z.zS][i]?)∧(∀ i,w'.cell? ⟨B1,i,none⟩= #[.string y.zV,.int .i64 y.zI,(.slice (some ⟨b2,off2,none⟩) y.zM.length uc2)][i]?)∧w'.cell? ⟨bT,oT+z.zW.toNat,none⟩=some (.int .i64 ta)∧w'.cell? ⟨bT,oT+k,none⟩=some (.int .i64 tb)) [] (by kernel_rfl) ?_ (fun hS0=>?_)
   ·exact HWd.out
   clear s0 s1
   generalize hwd:WZ.drew=wd at *;clear hwd
   refine tN 0 hS0 ?_
   refine tN 1 hS0 ?_
   refine tN 2 hS0 ?_
   refine tN 3 hS0 ?_
   refine tN 4 hS0 ?_
   refine tN 5 hS0 ?_
   refine tN 6 hS0 ?_
   refine tN 7 hS0 ?_
   refine tN 8 hS0 ?_
   refine tN 9 hS0 ?_
   refine tN 10 hS0 ?_
   refine tN 11 hS0 ?_
   refine tN 12 hS0 ?_
   refine tN 13 hS0 ?_
   have hsd:=HBd.out.size;have HA4:=hide (show Below wd.heap.size wd (wd.alloc (.cells #[.int .i64 (ta - tb - y.zI)] 2)) from(Below.refl _ _).alloc (Nat.le_refl _) _);have HO4:=hide (wO HOd.out HA4.out);have HB4:=hide (yJ HBd.out hsd HA4.out);have HL4:=hide (OwI.rd (lit1 wd (ta - tb - y.zI)))
   have HC4:=hide (show (∀ i,(wd.alloc (.cells #[.int .i64 (ta - tb - y.zI)] 2)).cell? ⟨B2,i,none⟩= #[.int .i64 z.zW,.int .i64 z.zS][i]?)∧(∀ i,(wd.alloc (.cells #[.int .i64 (ta - tb - y.zI)] 2)).cell? ⟨B1,i,none⟩= #[.string y.zV,.int .i64 y.zI,(.slice (some ⟨b2,off2,none⟩) y.zM.length uc2)][i]?)∧(wd.alloc (.cells #[.int .i64 (ta - tb - y.zI)] 2)).cell? ⟨bT,oT+z.zW.toNat,none⟩=some (.int .i64 ta)∧(wd.alloc (.cells #[.int .i64 (ta - tb - y.zI)] 2)).cell? ⟨bT,oT+k,none⟩=some (.int .i64 tb) from⟨(HZd.out.alloc _).cell,(HNd.out.alloc _).cell,(HA4.out.cell (World.block_lt_of_cell? _ _ HWd.out.2.2.1)).trans HWd.out.2.2.1,(HA4.out.cell (World.block_lt_of_cell? _ _ HWd.out.2.2.2)).trans HWd.out.2.2.2⟩)
   have hs4:=HB4.out.size
   refine oN 14 (fun K hK=>?_)
   go_simp
   refine uN hK ?_ (fun hS1=>?_)
   ·exact HC4.out
   clear hK K hS0
   have hsf:y.zM.length≤4:=(by by_cases e:(k:Int)=(x.zC.length:Int) - 1;(· have:=HNM.out.sends.last e;omega);(· exact(HNM.out.sends.few e).2));have hll:((y.zM.take q).map (uD (xV x) k y)).length+1≤8796093022208:=by rw[List.length_map,List.length_take];omega
   have ltT:bT<WX.heap.size:=lT
   refine oN 15 (fun K hK=>?_)
   refine vQ rfl _ _ rfl rfl HO4.out (ys:= [ta - tb - y.zI]) rfl HL4.out (by simp only[List.length_cons,List.length_nil];omega) hs4 ?_;intro v8 w8 ho hg hv
   have HB8:=hide (wW HB4.out HO4.out hg (Nat.le_refl _) hs4);have HO8:=hide ho
   have HC8:=hide (show (∀ i,w8.cell? ⟨B2,i,none⟩= #[.int .i64 z.zW,.int .i64 z.zS][i]?)∧(∀ i,w8.cell? ⟨B1,i,none⟩= #[.string y.zV,.int .i64 y.zI,(.slice (some ⟨b2,off2,none⟩) y.zM.length uc2)][i]?)∧w8.cell? ⟨bT,oT+z.zW.toNat,none⟩=some (.int .i64 ta)∧w8.cell? ⟨bT,oT+k,none⟩=some (.int .i64 tb) from⟨((HZd.out.alloc _).grown hg (fun e=>absurd (HLT.out _ e.symm) (Nat.lt_irrefl _))).cell,(HNX.out.below HB8.out HNX.out.lt).cell,(HB8.out.cell lT).trans HCX.out.1,(HB8.out.cell lT).trans HCX.out.2⟩)
   clear ho hg hv
   refine uN hK ?_ (fun hS2=>?_)
   ·exact HC8.out
   clear hK K hS1
   refine oN 16 (fun K hK=>?_)
   go_simp
   refine uN hK ?_ (fun hS3=>?_)
   ·exact HC8.out
   clear hK K hS2
   refine xY (by kernel_rfl) ?_
   clear hS3
   go_wp2
   go_roundw
   case rel=>exact⟨q+1,by omega,by go_num,by rw[xQ HGZ.out,List.map_append,List.map_cons,List.map_nil,HWN.out];exact HO8.out,HB8.out⟩
   case measure=>simp[intOf];omega
theorem c_l26Delays (x:xU) (b o:Nat) (w:World) (hM:vU x) (hg:x.good) (h:T.at w x.fs b o):Calls Tryz.prog 183 #[.pointer (some ⟨b,o,none⟩)] w fun e w'=> ∃ v F,e= .returned v∧Own w.heap.size w' (T.sl 26 1 ((wX x).map (T.ints 2))) F v∧Below w.heap.size w w':=by
 have HAT:=hide h
 obtain⟨hlt0,cs,hr,hc⟩:=h
 obtain⟨v0,rfl,h0⟩:=xU.yO hr
 clear hr
 have R0:=hide h0;obtain⟨va0,vc0,rfl,vl0,vm0,vx0⟩:=T.yN h0
 have HX0:=hide vx0;clear vx0 h0
 have HL:=hide hlt0;have HCC:=hide hc;have HB0:=hide (Below.refl w.heap.size w);clear hlt0 hc
 have HM:=hide hM;have HGD:=hide hg;have hn8:x.zC.length≤8:=hM.few;have hn1:1≤x.zC.length:=hM.some_;clear hM hg
 have HDL:=hide (length_delaysF x);have HDA:=hide (fun k y (h:x.zC[k]?=some y)=>delays_at h)
 have p0:w.cell? ⟨b,o,none⟩=some (.slice va0 x.zC.length vc0):=(HB0.out.cell HL.out).trans (HCC.out 0 _ rfl)
 have lb:b<w.heap.size:=lL HL.out HB0.out.size
 go_enter Tryz.func183,Tryz.ntmps183
 go_wp2_with fail
 refine(c_l26Entries x _ _ _ HM.out HGD.out HAT.out).mono ?_;rintro e w1 ⟨vT,rfl,ho,hd⟩
 have hel:(xV x).length=x.zC.length:=vG x
 obtain⟨bT,oT,cT,rfl,hc1,hc2,hbT,hcT⟩:=xO (OwI.rd ho) (by omega)
 rw[hel] at hc1
 have HTC:=hide hcT;have HB1:=hide hd;clear hcT ho hd p0 lb
 have p0:w1.cell? ⟨b,o,none⟩=some (.slice va0 x.zC.length vc0):=(HB1.out.cell HL.out).trans (HCC.out 0 _ rfl)
 have lb:b<w1.heap.size:=lL HL.out HB1.out.size
 have HO0:=hide (Own.born (World.ownsRow_made w1 #[] 0 (Nat.le_refl _) (by decide) rfl:(w1.alloc (.cells #[] 26)).ownsRow w1.heap.size 26 1 (.slice (some ⟨w1.heap.size,0,none⟩) 0 0) 0 []))
 have HB1':=hide (show Below w1.heap.size w1 (w1.alloc (.cells #[] 26)) from(Below.refl _ _).alloc (Nat.le_refl _) _)
 generalize hD:wX x=D at *;have HDq:=hide hD;clear hD
 have hDl:D.length=x.zC.length:=HDL.out
 go_wp2
 go_loopw [4,5] (fun r i wr=> ∃ k F,k≤x.zC.length∧i= .int .i64 (k:Int)∧Own w1.heap.size wr (T.sl 26 1 ((D.take k).map (T.ints 2))) F r∧Below w1.heap.size w1 wr) (fun _ i _=>x.zC.length - (intOf i).toNat)
 case atStart=>exact⟨0,_,Nat.zero_le _,rfl,by rw[List.take_zero];exact HO0.out,HB1'.out⟩
 case round=>
  obtain⟨k,F,hk,rfl,ho,hbw⟩:=hrel
  have HO:=hide ho;have HBr:=hide hbw;have hs0:=hbw.size;have HB:=hide (yJ HB1.out HB1.out.size hbw);clear ho hbw p0 lb
  have p0:wr.cell? ⟨b,o,none⟩=some (.slice va0 x.zC.length vc0):=(HB.out.cell HL.out).trans (HCC.out 0 _ rfl)
  have lb:b<wr.heap.size:=lL HL.out HB.out.size
  by_cases hlt:k<x.zC.length
  rotate_left
  ·
   obtain rfl:k=x.zC.length:=by omega
   go_wp2
   go_ret
   exact⟨_,F,rfl,by have h:=HO.out;rw[List.take_of_length_le (by omega)] at h;rw[HDq.out];exact h.more HB1.out.size,HB.out⟩
  have hgk:=gE hlt
  obtain⟨b1,off,csy,hA,hb1,hcs,hcell⟩:=HX0.out k x.zC[k] hgk
  subst hA
  generalize x.zC[k]=y at *
  have HG:=hide hgk;clear hgk
  have HAy:=hide (T.at_elem (o:=off+k * 3) hb1 (show T.rds w y.fs csy by simpa only[xH.t,T.rd] using hcs) hcell (by omega));clear hcs hcell
  clear p0 lb
  have p0:wr.cell? ⟨b,o,none⟩=some (.slice (some ⟨b1,off,none⟩) x.zC.length vc0):=(HB.out.cell HL.out).trans (HCC.out 0 _ rfl)
  have lb:b<wr.heap.size:=lL HL.out HB.out.size
  obtain⟨lty,csy',hry,hcy⟩:=HAy.out
  obtain⟨u2,rfl,hu2⟩:=xH.yO hry
  have Ru2:=hide hu2;obtain⟨ua2,uc2,rfl,ul2,um2,ux2⟩:=T.yN hu2;have HXu2:=hide ux2;clear ux2 hu2
  have HCy:=hide hcy;clear hry hcy
  have cy0:wr.cell? ⟨b1,off+k * 3,none⟩=some (.string y.zV):=(HB.out.cell lty).trans (HCy.out 0 _ rfl)
  have cy1:wr.cell? ⟨b1,off+k * 3+1,none⟩=some (.int .i64 y.zI):=(HB.out.cell lty).trans (HCy.out 1 _ rfl)
  have cy2:wr.cell? ⟨b1,off+k * 3+2,none⟩=some (.slice ua2 y.zM.length uc2):=(HB.out.cell lty).trans (HCy.out 2 _ rfl)
  have HNM:=hide (HM.out.each k y HG.out).1
  have hlat:=uL.1 HNM.out.latency
  have lb1:b1<wr.heap.size:=lL hb1 HB.out.size
  have HRG:=hide (HDA.out k y HG.out)
  go_wp2
  obtain⟨WX,hWX⟩: ∃ WX,WX=wr:=⟨_,rfl⟩
  subst hWX
  go_loopw [7,8] (fun l i wr=> ∃ q:Nat,q≤y.zM.length∧i= .int .i64 (q:Int)∧OwI 2 wr WX.heap.size l ((y.zM.take q).map (uD (xV x) k y))∧Below WX.heap.size WX wr) (fun _ i _=>y.zM.length - (intOf i).toNat)
  case atStart=>exact⟨0,Nat.zero_le _,rfl,vC WX,(Below.refl _ _).alloc (Nat.le_refl _) _⟩
  case round=>
   obtain⟨q,hq,rfl,ho,hbw⟩:=hrel
   have HOi:=hide ho;have HWi:=hide hbw;have hsi:=hbw.size;clear ho hbw p0 lb cy0 cy1 cy2
   have HBi:=hide (yJ HB1.out HB1.out.size (yJ HBr.out HBr.out.size HWi.out))
   have p0:wr.cell? ⟨b,o,none⟩=some (.slice (some ⟨b1,off,none⟩) x.zC.length vc0):=(HBi.out.cell HL.out).trans (HCC.out 0 _ rfl)
   have lb:b<wr.heap.size:=lL HL.out HBi.out.size
   have cy0:wr.cell? ⟨b1,off+k * 3,none⟩=some (.string y.zV):=(HBi.out.cell lty).trans (HCy.out 0 _ rfl)
   have cy1:wr.cell? ⟨b1,off+k * 3+1,none⟩=some (.int .i64 y.zI):=(HBi.out.cell lty).trans (HCy.out 1 _ rfl)
   have cy2:wr.cell? ⟨b1,off+k * 3+2,none⟩=some (.slice ua2 y.zM.length uc2):=(HBi.out.cell lty).trans (HCy.out 2 _ rfl)
   have lb1':b1<wr.heap.size:=lL hb1 HBi.out.size
   by_cases hlq:q<y.zM.length
   rotate_left
   ·
    obtain rfl:q=y.zM.length:=by omega
    obtain⟨A1,c1,hl1,-,-,-⟩:=HOi.out.rd.open_;rw[show ((y.zM.take y.zM.length).map (uD (xV x) k y)).length=y.zM.length by rw[List.take_length,List.length_map]] at hl1;subst hl1
    have HN1:=hide (Nv.ints HOi.out HWi.out);have HOX:=hide (HO.out.all HWi.out);have HB1r:=hide (yJ HBr.out HBr.out.size HWi.out)
    rw[List.take_length] at HN1
    go_wp2_with (at_builtin;refine app1_T rfl _ _ _ rfl w1.heap.size 26 _ 1 24 Tryz.underlying24 wU rfl (by omega) rfl HOX.out HN1.out.ow HN1.out.nodup (fun b hb=>Nat.le_trans hs0 (HN1.out.lo b hb)) (fun b hb hb2=>by have h1:=HO.out.lt b hb;have h2:=HN1.out.lo b hb2;omega) rfl rfl (by rw[List.length_map,List.length_take];omega) (by rw[List.length_map,List.length_take];omega) HB1r.out.size ?_;intro v8 w8 F8 ho8 hg8 hv8;have HO8:=hide ho8;have HB8:=hide (HOX.out.below HB1r.out HB1r.out.size hg8);clear ho8 hg8 hv8)
    go_roundw
    case rel=>exact⟨k+1,F8,by omega,by go_num,by rw[xQ HRG.out,List.map_append];exact HO8.out,HB8.out⟩
    case measure=>simp[intOf];omega
   have hgq:=gE hlq
   obtain⟨b2,off2,cs2,hA2,hb2,hcs2,hcell2⟩:=HXu2.out q y.zM[q] hgq
   subst hA2
   generalize y.zM[q]=z at *
   have HGZ:=hide hgq;clear hgq
   obtain rfl:=xM.yO (show T.rds _ _ _ by simpa only[xM.t,T.rd] using hcs2)
   have s0:=(HBi.out.cell hb2).trans (hcell2 0 (.int .i64 z.zW) rfl)
   have s1:=(HBi.out.cell hb2).trans (hcell2 1 (.int .i64 z.zS) rfl)
   rw[show off2+(q * 2+0)=off2+q * 2 by omega] at s0
   rw[show off2+(q * 2+1)=off2+q * 2+1 by omega] at s1
   clear hcs2 hcell2
   have lb2:b2<wr.heap.size:=lL hb2 HBi.out.size
   obtain⟨t0,t1,_⟩:=vX HM.out HG.out q z HGZ.out
   have n0:0≤z.zW:=by omega
   obtain⟨ta,ga,da,a0,a1⟩:=ent_at HM.out (show z.zW.toNat<x.zC.length by omega)
   obtain⟨tb,gb,db,c0,c1⟩:=ent_at HM.out hlt
   have HWN:=hide (show uD (xV x) k y z=ta - tb - y.zI by unfold uD;rw[da,db]);clear da db
   have HCA:=hide (HTC.out _ _ ga);have HCB:=hide (HTC.out _ _ gb);clear ga gb
   have hzl:z.zW<(x.zC.length:Int):=t1
   have hw1:IntKind.i64.wrap (ta - tb)=ta - tb:=IntWalk.i64_in _ (by omega)
   have hw2:IntKind.i64.wrap (ta - tb - y.zI)=ta - tb - y.zI:=IntWalk.i64_in _ (by omega)
   have lT:bT<WX.heap.size:=lL hbT HBr.out.size
   have HCX:=hide (And.intro ((HBr.out.cell hbT).trans HCA.out) ((HBr.out.cell hbT).trans HCB.out))
   have HCAz:=hide ((HWi.out.cell lT).trans HCX.out.1);have HCBz:=hide ((HWi.out.cell lT).trans HCX.out.2)
   have hsf:y.zM.length≤4:=(by by_cases e:(k:Int)=(x.zC.length:Int) - 1;(· have:=HNM.out.sends.last e;omega);(· exact(HNM.out.sends.few e).2));have hll:((y.zM.take q).map (uD (xV x) k y)).length+1≤8796093022208:=by rw[List.length_map,List.length_take];omega
   go_wp2
   have HWd:=hide (show wr.drew.cell? ⟨b1,off+k * 3+1,none⟩=some (.int .i64 y.zI)∧wr.drew.cell? ⟨b1,off+k * 3+2,none⟩=some (.slice (some ⟨b2,off2,none⟩) y.zM.length uc2)∧wr.drew.cell? ⟨b2,off2+q * 2,none⟩=some (.int .i64 z.zW)∧wr.drew.cell? ⟨bT,oT+z.zW.toNat,none⟩=some (.int .i64 ta)∧wr.drew.cell? ⟨bT,oT+k,none⟩=some (.int .i64 tb) from⟨cy1,cy2,s0,HCAz.out,HCBz.out⟩)
   have HOd:=hide (show OwI 2 wr.drew WX.heap.size _ _ from wO HOi.out (Below.refl wr.heap.size wr).drew);have HBd:=hide HWi.out.drew
   refine wE (fun w'=>w'.cell? ⟨b1,off+k * 3+1,none⟩=some (.int .i64 y.zI)∧w'.cell? ⟨b1,off+k * 3+2,none⟩=some (.slice (some ⟨b2,off2,none⟩) y.zM.length uc2)∧w'.cell? ⟨b2,off2+q * 2,none⟩=some (.int .i64 z.zW)∧w'.cell? ⟨bT,oT+z.zW.toNat,none⟩=some (.int .i64 ta)∧w'.cell? ⟨bT,oT+k,none⟩=some (.int .i64 tb)) [] (by kernel_rfl) ?_ (fun hS0=>?_)
   ·exact HWd.out
   have k1:b1<WX.heap.size:=lL hb1 HB.out.size;have k2:b2<WX.heap.size:=lL hb2 HB.out.size
   have HKP:=hide (show ∀ w',Below WX.heap.size WX w'→w'.cell? ⟨b1,off+k * 3+1,none⟩=some (.int .i64 y.zI)∧w'.cell? ⟨b1,off+k * 3+2,none⟩=some (.slice (some ⟨b2,off2,none⟩) y.zM.length uc2)∧w'.cell? ⟨b2,off2+q * 2,none⟩=some (.int .i64 z.zW)∧w'.cell? ⟨bT,oT+z.zW.toNat,none⟩=some (.int .i64 ta)∧w'.cell? ⟨bT,oT+k,none⟩=some (.int .i64 tb) from fun w' hw=>⟨(hw.cell k1).trans ((HWi.out.cell k1).symm.trans cy1),(hw.cell k1).trans ((HWi.out.cell k1).symm.trans cy2),(hw.cell k2).trans ((HWi.out.cell k2).symm.trans s0),(hw.cell lT).trans HCX.out.1,(hw.cell lT).trans HCX.out.2⟩)
   clear s0 s1 cy0 cy1 cy2 p0 lb
   generalize hwd:wr.drew=wd at *;clear hwd
   refine tN 0 hS0 ?_
   refine tN 1 hS0 ?_
   refine tN 2 hS0 ?_
   refine tN 3 hS0 ?_
   refine tN 4 hS0 ?_
   refine tN 5 hS0 ?_
   refine tN 6 hS0 ?_
   refine tN 7 hS0 ?_
   refine tN 8 hS0 ?_
   refine tN 9 hS0 ?_
   refine tN 10 hS0 ?_
   refine tN 11 hS0 ?_
   refine tN 12 hS0 ?_
   refine tN 13 hS0 ?_
   refine tN 14 hS0 ?_
   refine tN 15 hS0 ?_
   refine tN 16 hS0 ?_
   refine tN 17 hS0 ?_
   refine tN 18 hS0 ?_
   refine tN 19 hS0 ?_
   refine tN 20 hS0 ?_
   refine tN 21 hS0 ?_
   have hsd:=HBd.out.size;have HA4:=hide (show Below wd.heap.size wd (wd.alloc (.cells #[.int .i64 (ta - tb - y.zI)] 2)) from(Below.refl _ _).alloc (Nat.le_refl _) _);have HO4:=hide (wO HOd.out HA4.out);have HB4:=hide (yJ HBd.out hsd HA4.out);have HL4:=hide (OwI.rd (lit1 wd (ta - tb - y.zI)))
   have hs4:=HB4.out.size
   refine oN 22 (fun K hK=>?_)
   go_simp
   refine uN hK ?_ (fun hS1=>?_)
   ·exact HKP.out _ HB4.out
   clear hK K hS0
   refine oN 23 (fun K hK=>?_)
   refine vQ rfl _ _ rfl rfl HO4.out (ys:= [ta - tb - y.zI]) rfl HL4.out (by simp only[List.length_cons,List.length_nil];omega) hs4 ?_;intro v8 w8 ho hg hv
   have HB8:=hide (wW HB4.out HO4.out hg (Nat.le_refl _) hs4);have HO8:=hide ho;clear ho hg hv
   refine uN hK ?_ (fun hS2=>?_)
   ·exact HKP.out _ HB8.out
   clear hK K hS1
   refine oN 24 (fun K hK=>?_)
   go_simp
   refine uN hK ?_ (fun hS3=>?_)
   ·exact HKP.out _ HB8.out
   clear hK K hS2
   refine xY (by kernel_rfl) ?_
   clear hS3
   go_wp2
   go_roundw
   case rel=>exact⟨q+1,by omega,by go_num,by rw[xQ HGZ.out,List.map_append,List.map_cons,List.map_nil,HWN.out];exact HO8.out,HB8.out⟩
   case measure=>simp[intOf];omega
end Go.Proofs.YtoibekfhepnedaaGreat
