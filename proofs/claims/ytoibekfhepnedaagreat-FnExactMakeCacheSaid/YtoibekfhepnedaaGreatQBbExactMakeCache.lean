/- Contract: the outputs of all strips, by the program. -/
import Derived.Test.YtoibekfhepnedaaGreatQAvExactMakeCache
import Derived.Test.YtoibekfhepnedaaGreatQArExactMakeCache
import Derived.Test.YtoibekfhepnedaaGreatQAyExactMakeCache
import Derived.Test.YtoibekfhepnedaaGreatQAzExactMakeCache
import Derived.Test.YtoibekfhepnedaaGreatQBaExactMakeCache
import Derived.Test.YtoibekfhepnedaaGreatQAtExactMakeCache
set_option linter.unusedVariables false
set_option linter.unusedSimpArgs false
set_option maxHeartbeats 16000000
set_option maxRecDepth 100000
namespace Go.Proofs.YtoibekfhepnedaaGreat
open Go.RowKit
theorem cel_made {w:World} {bc m:Nat} {t:TypeId} (h:Bk w bc t (List.replicate m (.slice none 0 0)).toArray):Cel w bc [bc] t (List.replicate m (.slice none 0 0)).toArray (List.replicate m []):=by
 refine⟨h,fun i l hl=>?_⟩
 rw[List.getElem?_replicate] at hl
 split at hl
 ·next hi=>
  injection hl with hl
  subst hl
  exact⟨.slice none 0 0,by simp[hi],OwI.rd (OwI.nil_ 0 w 0),by simp[Value.ownBlock],by simp[Value.ownBlock]⟩
 ·cases hl
theorem c_delayed' (v:Value) (a:List Int) (b:Nat) (w:World) {N:Int} (hN:N=(b:Int)) (ha:RdI w v a) (na:a.length≤1048576) (hb:b≤1048576):Calls Tryz.prog 196 #[v,.int .i64 N] w fun e w'=> ∃ v',e= .returned v'∧OwI 2 w' w.heap.size v' (lateF a b a.length)∧Below w.heap.size w w':=by
 subst hN;exact c_delayed v a b w ha na hb
theorem c_zeros0' (n:Nat) (w:World) {N:Int} (hN:N=(n:Int)) (hn:n≤1048576):Calls Tryz.prog 193 #[.int .i64 N] w fun e w'=>e= .returned (.slice (some ⟨w.heap.size,0,none⟩) n n)∧OwI 2 w' w.heap.size (.slice (some ⟨w.heap.size,0,none⟩) n n) (List.replicate n 0)∧Below w.heap.size w w':=by
 subst hN;exact c_zeros0 n w hn
theorem c_renderTrack' (x:xI) (cs:List Value) (sources:List (List Int)) (sv:Value) (n:Nat) (w:World) {N:Int} (hN:N=(n:Int)) (hT:TrackOk x) (hS:zAz sources) (hc:Each x.zR fun _ c=>c.zU<(sources.length:Int)) (hn:n≤4000) (hr:T.rd w (T.sl 26 1 (sources.map (T.ints 2))) [sv]) (h:T.rds w x.fs cs):Calls Tryz.prog 194 #[sv,.agg cs.toArray,.int .i64 N] w fun e w'=> ∃ v,e= .returned v∧OwI 2 w' w.heap.size v (uS sources x n)∧Below w.heap.size w w':=by
 subst hN;exact c_renderTrack x cs sources sv n w hT hS hc hn hr h
/-- The third loop's memory (a def, else simp turns its order). -/
def RelS (x:xK) (w4:World) (nn:Nat) (o r i:Value) (wr:World):Prop:= ∃ (k:Nat) (A F:List Nat) (cs:Array Value) (vo_ vr_:Value),k≤x.zG.zC.length∧i= .int .i64 (k:Int)∧vo_=o∧vr_=r∧StM w4 wr w4.heap.size A F cs (xP x nn k).1 (xP x nn k).2 vo_ vr_ ((readyF x.zG).take k)
theorem c_strips (x:xK) (cs:List Value) (w:World) (hS:vL x) (hg:x.good) (h:T.rds w x.fs cs):Calls Tryz.prog 132 #[.agg cs.toArray] w fun e w'=> ∃ vo vr,e= .returned (.tuple #[vo,vr])∧T.rd w' (T.sl 26 1 ((outsF x).map (T.ints 2))) [vo]∧RdI w' vr (readyF x.zG)∧Below w.heap.size w w':=by
 obtain⟨v1,v2,v3,v4,v5,rfl,h1,h2,h3,h4,h5⟩:=xK.yO h
 clear h
 have R1:=hide h1;obtain⟨va1,vc1,rfl,vl1,vm1,vx1⟩:=T.yN h1
 have HX1:=hide vx1;clear vx1 h1
 have R2:=hide h2;obtain⟨va2,vc2,rfl,vl2,vm2,vx2⟩:=T.yN h2
 have HX2:=hide vx2;clear vx2 h2
 have h3i:=T.yT.1 h3;obtain⟨va3,vc3,rfl,vl3,vm3,vx3⟩:=h3i.open_
 have R3:=hide h3i;have HX3:=hide vx3;clear vx3 h3 h3i
 have R4:=hide h4;obtain⟨va4,vc4,rfl,vl4,vm4,vx4⟩:=T.yN h4
 have HX4:=hide vx4;clear vx4 h4
 have R5:=hide h5;obtain⟨va5,vc5,rfl,vl5,vm5,vx5⟩:=T.yN h5
 have HX5:=hide vx5;clear vx5 h5
 have HB0:=hide (show Below w.heap.size w (w.alloc (.cells #[.int .i64 x.zF,(.slice va1 x.zL.length vc1),(.slice va2 x.zO.length vc2),(.slice va3 x.zQ.length vc3),(.slice va4 x.zP.length vc4),(.slice va5 x.zG.zC.length vc5)] 32)) from(Below.refl _ _).alloc (Nat.le_refl _) _)
 have HK0:=hide (Bk.born w 32 #[.int .i64 x.zF,(.slice va1 x.zL.length vc1),(.slice va2 x.zO.length vc2),(.slice va3 x.zQ.length vc3),(.slice va4 x.zP.length vc4),(.slice va5 x.zG.zC.length vc5)])
 have HSO:=hide hS;have HM:=hide hS.mixer;have HGM:=hide (show x.zG.good from hg.2.2.2.2.2);have hn8:x.zG.zC.length≤8:=hS.mixer.few;have hn1:1≤x.zG.zC.length:=hS.mixer.some_;have ht6:x.zO.length≤6:=hS.few;have hfl:x.zQ.length=x.zO.length:=hS.feed;have hel:x.zP.length=x.zG.zC.length:=hS.effect
 have htot:=total_ok hS.mixer;have hle:=xC.1 hS.length;have HSRC:=hide hS.sources;clear hS hg
 obtain⟨lenN,hlen⟩: ∃ q:Nat,x.zF=(q:Int):=⟨x.zF.toNat,by omega⟩
 obtain⟨nn,hnn⟩: ∃ q:Nat,x.zF+vN x.zG=(q:Int):=⟨(x.zF+vN x.zG).toNat,by omega⟩
 have hnt:(x.zF+vN x.zG).toNat=nn:=by omega
 have HOUT:=hide (show (xP x nn x.zG.zC.length).2=outsF x by rw[←hnt];rfl)
 have hnb:nn≤1288:=by omega
 have hw1:IntKind.i64.wrap (x.zF+vN x.zG)=(nn:Int):=by rw[hnn];exact IntWalk.i64_in _ (by omega)
 have hw2:IntKind.i64.wrap ((nn:Int) - x.zF)=((nn - lenN:Nat):Int):=by rw[hlen,IntWalk.i64_in _ (by omega)];omega
 have hln:lenN≤nn:=by omega
 have HDL:=hide (length_delaysF x.zG);have HDA:=hide (fun k y (h:x.zG.zC[k]?=some y)=>delays_at h);have HRD:=hide (fun k y (h:x.zG.zC[k]?=some y)=>ready_at h);have HRL:=hide (length_readyF x.zG)
 have HENT:=hide (fun j (h:j<x.zG.zC.length)=>ent_at HM.out h)
 have HLEN:=hide hlen;have HFL:=hide hfl;have HEL:=hide hel;clear hlen hfl hel hnn hnt
 go_enter Tryz.func132,Tryz.ntmps132
 go_wp2
 generalize hW1:(w.alloc (.cells #[.int .i64 x.zF,(.slice va1 x.zL.length vc1),(.slice va2 x.zO.length vc2),(.slice va3 x.zQ.length vc3),(.slice va4 x.zP.length vc4),(.slice va5 x.zG.zC.length vc5)] 32))=W1 at *;clear hW1
 have HDr:=hide ((Below.refl W1.heap.size W1).drew);have HKP:=hide (fun(w':World) (hw:Below W1.heap.size W1 w')=>((HK0.out.below hw HK0.out.lt).cell:(∀ i,w'.cell? ⟨w.heap.size,i,none⟩= #[.int .i64 x.zF,(.slice va1 x.zL.length vc1),(.slice va2 x.zO.length vc2),(.slice va3 x.zQ.length vc3),(.slice va4 x.zP.length vc4),(.slice va5 x.zG.zC.length vc5)][i]?)))
 refine wE (fun w'=>(∀ i,w'.cell? ⟨w.heap.size,i,none⟩= #[.int .i64 x.zF,(.slice va1 x.zL.length vc1),(.slice va2 x.zO.length vc2),(.slice va3 x.zQ.length vc3),(.slice va4 x.zP.length vc4),(.slice va5 x.zG.zC.length vc5)][i]?)) [] (by kernel_rfl) ?_ (fun hS0=>?_)
 ·exact HKP.out _ HDr.out
 generalize hwd:W1.drew=wd at *;clear hwd
 refine tN 0 hS0 ?_
 refine tN 1 hS0 ?_
 refine tN 2 hS0 ?_
 refine tN 3 hS0 ?_
 refine oN 4 (fun K hK=>?_)
 go_simp
 go_wp2_with (go_at_call 190;refine(c_latency x.zG _ _ HM.out HGM.out (xU.rd_mk (T.yF R5.out (yJ HB0.out HB0.out.size HDr.out)))).mono ?_;rintro e w2 ⟨rfl,hb⟩)
 have HD2:=hide (yJ HDr.out HDr.out.size hb);clear hb
 refine uN hK ?_ (fun hS1=>?_)
 ·exact HKP.out _ HD2.out
 clear hK K hS0
 refine tN 5 hS1 ?_
 refine oN 6 (fun K hK=>?_)
 go_simp
 refine uN hK ?_ (fun hS2=>?_)
 ·exact HKP.out _ HD2.out
 clear hK K hS1
 refine xY (by kernel_rfl) ?_
 clear hS2
 go_wp2
 have HDq:=hide (HD2.out.drew)
 refine wE (fun w'=>(∀ i,w'.cell? ⟨w.heap.size,i,none⟩= #[.int .i64 x.zF,(.slice va1 x.zL.length vc1),(.slice va2 x.zO.length vc2),(.slice va3 x.zQ.length vc3),(.slice va4 x.zP.length vc4),(.slice va5 x.zG.zC.length vc5)][i]?)) [] (by kernel_rfl) ?_ (fun hS0=>?_)
 ·exact HKP.out _ HDq.out
 generalize hwd2:w2.drew=we at *;clear hwd2
 refine tN 0 hS0 ?_
 refine tN 1 hS0 ?_
 refine tN 3 hS0 ?_
 refine tN 4 hS0 ?_
 refine oN 2 (fun K hK=>?_)
 go_simp
 go_wp2_with (go_at_call 191;refine(c_entries x.zG _ _ HM.out HGM.out (xU.rd_mk (T.yF R5.out (yJ HB0.out HB0.out.size HDq.out)))).mono ?_;rintro e w3 ⟨vT,rfl,ho,hb⟩)
 have HT3:=hide ho;have HD3:=hide (yJ HDq.out HDq.out.size hb);clear ho hb
 refine uN hK ?_ (fun hS1=>?_)
 ·exact HKP.out _ HD3.out
 clear hK K hS0
 refine oN 5 (fun K hK=>?_)
 go_simp
 go_wp2_with (go_at_call 192;refine(c_delays x.zG _ _ HM.out HGM.out (xU.rd_mk (T.yF R5.out (yJ HB0.out HB0.out.size HD3.out)))).mono ?_;rintro e w4 ⟨vD,FD,rfl,ho,hb⟩)
 have HV4:=hide (T.ow_rd _ _ _ ho.ow);have HT4:=hide (OwI.rd (wO HT3.out hb));have HD4:=hide (yJ HD3.out HD3.out.size hb);clear ho hb
 refine uN hK ?_ (fun hS2=>?_)
 ·exact HKP.out _ HD4.out
 clear hK K hS1
 refine oN 6 (fun K hK=>?_)
 go_simp
 refine uN hK ?_ (fun hS3=>?_)
 ·exact HKP.out _ HD4.out
 clear hK K hS2
 refine oN 7 (fun K hK=>?_)
 go_simp
 refine uN hK ?_ (fun hS4=>?_)
 ·exact HKP.out _ HD4.out
 clear hK K hS3
 refine xY (by kernel_rfl) ?_
 clear hS4
 have hetl:(xV x.zG).length=x.zG.zC.length:=vG _
 obtain⟨bT,oT,cT,rfl,hcT1,hcT2,hbT,hcT⟩:=xO HT4.out (by omega)
 rw[hetl] at *
 have HTC:=hide hcT;clear hcT
 obtain⟨DA,dcap,rfl,dl,dm,dx⟩:=T.yN HV4.out;have HDX:=hide dx;clear dx;rw[HDL.out] at *
 have HB4:=hide (yJ HB0.out HB0.out.size HD4.out);have HK4:=hide (HK0.out.below HD4.out HK0.out.lt)
 clear HDr HDq HD2 HD3 HT3
 have ka:=HK4.out.cell;have la:=HK4.out.lt
 obtain⟨i1,hi1,hz10,hz11,hz12⟩:=info_parts wU
 go_wp2_with (at_make;refine wpList_make_full _ rfl _ _ _ rfl w4.heap.size 26 i1 _ 1 Tryz.underlying24 hi1 hz10 hz11 .i64 .i64 _ _ x.zG.zC.length rfl rfl rfl rfl (by rw[hz12];omega) (by unfold maxLen;omega) (Nat.le_refl _) ?_;intro w5 hown5 hg5;have HBi:=hide (own_bkN hown5);have HG5:=hide ((Below.refl w4.heap.size w4).grown hg5 (Nat.le_refl _) (by simp));clear hown5 hg5)
 clear hi1 hz10 hz11 hz12 ka la
 have HBi2:=hide (show Bk w5 w4.heap.size 26 (List.replicate x.zG.zC.length (.slice none 0 0)).toArray from by have h:Bk w5 w4.heap.size 26 (madeCells (#[.slice none 0 0]:Array Value) (x.zG.zC.length * 1)).toList.toArray:=HBi.out;rw[Nat.mul_one,toList_madeCells_one] at h;exact h)
 have HMa:=hide (show StM w4 w5 w4.heap.size [w4.heap.size] [] _ (List.replicate x.zG.zC.length []) [] (.slice none 0 0) (.slice none 0 0) [] from⟨HG5.out,Nat.le_refl _,by have h:=cel_made HBi2.out;exact h,Own.nil _ _ _ _,OwI.nil_ _ _ _,by simp,by have h:=HBi2.out.lt;simpa using h,by simp,by simp[Value.ownBlock],by simp,by simp[Value.ownBlock]⟩)
 have HK5:=hide (HK4.out.below HG5.out HK4.out.lt)
 have ka:=HK5.out.cell;have la:=HK5.out.lt
 go_wp2
 go_loopw [39] (fun i wr=> ∃ (k:Nat) (cs:Array Value),k≤x.zG.zC.length∧i= .int .i64 (k:Int)∧StM w4 wr w4.heap.size [w4.heap.size] [] cs (insUp x.zG.zC.length k (List.replicate nn 0)) [] (.slice none 0 0) (.slice none 0 0) []) (fun i _=>x.zG.zC.length - (intOf i).toNat)
 case atStart=>exact⟨0,_,Nat.zero_le _,rfl,HMa.out⟩
 case round=>
  obtain⟨k,cs,hk,rfl,hm⟩:=hrel
  have HMk:=hide hm;clear hm ka la
  by_cases hlt:k<x.zG.zC.length
  rotate_right
  ·-- the loop ends
   obtain rfl:k=x.zG.zC.length:=by omega
   have HMb:=hide (show StM w4 wr w4.heap.size [w4.heap.size] [] cs (feedUp x nn 0) [] (.slice none 0 0) (.slice none 0 0) [] from by have h:=HMk.out;rw[insUp_all] at h;exact h)
   clear HMk
   have HKk:=hide (HK4.out.below HMb.out.bel HK4.out.lt);have ka:=HKk.out.cell;have la:=HKk.out.lt
   go_wp2
   go_loopw [51] (fun i wr=> ∃ (k:Nat) (cs:Array Value),k≤x.zO.length∧i= .int .i64 (k:Int)∧StM w4 wr w4.heap.size [w4.heap.size] [] cs (feedUp x nn k) [] (.slice none 0 0) (.slice none 0 0) []) (fun i _=>x.zO.length - (intOf i).toNat)
   case atStart=>exact⟨0,_,Nat.zero_le _,rfl,HMb.out⟩
   case round=>
    obtain⟨k,cs,hk,rfl,hm⟩:=hrel
    have HMk:=hide hm;have HB:=hide (yJ HB4.out HB4.out.size hm.bel);clear hm ka la
    have HKk:=hide (HK4.out.below HMk.out.bel HK4.out.lt);have ka:=HKk.out.cell;have la:=HKk.out.lt
    by_cases hlt:k<x.zO.length
    rotate_left
    ·-- the tracks are fed
     obtain rfl:k=x.zO.length:=by omega
     have HM3:=hide (HMk.out.two)
     clear HMk
     clear HB HKk ka la
     obtain⟨wr0,rfl⟩: ∃ q,q=wr:=⟨_,rfl⟩
     have HK3:=hide (HK4.out.below HM3.out.bel HK4.out.lt);have ka:=HK3.out.cell;have la:=HK3.out.lt
     go_wp2
     go_loopw [13,14,94] (fun o r i wr=>RelS x w4 nn o r i wr) (fun _ _ i _=>x.zG.zC.length - (intOf i).toNat)
     case atStart=>unfold RelS;exact⟨0,_,_,_,_,_,Nat.zero_le _,rfl,rfl,rfl,HM3.out⟩
     case round=>
      unfold RelS at hrel;obtain⟨k,A,F,cs,vo_,vr_,hk,rfl,rfl,rfl,hm⟩:=hrel
      have HMk:=hide hm;have HB:=hide (yJ HB4.out HB4.out.size hm.bel);clear hm ka la
      have HKk:=hide (HK4.out.below HMk.out.bel HK4.out.lt);have ka:=HKk.out.cell;have la:=HKk.out.lt
      by_cases hlt:k<x.zG.zC.length
      rotate_left
      ·
       obtain rfl:k=x.zG.zC.length:=by omega
       go_wp2
       go_ret2
       exact⟨_,_,rfl,by have h:=T.ow_rd _ _ _ HMk.out.outs.ow;rw[HOUT.out] at h;exact h,by have h:=OwI.rd HMk.out.rdy;rw[List.take_of_length_le (by rw[HRL.out];omega)] at h;exact h,HB.out⟩
      have hgk:=gE hlt
      obtain⟨b1,off,cs1,hA,hb1,hcs,hcell⟩:=HX5.out k x.zG.zC[k] hgk
      subst hA
      generalize x.zG.zC[k]=y at *
      have HG:=hide hgk;clear hgk
      obtain⟨u2,rfl,hRY2⟩:=xH.yO (show T.rds _ _ _ by simpa only[xH.t,T.rd] using hcs)
      have d0:=(HB.out.cell hb1).trans (hcell 0 (.string y.zV) rfl)
      have d1:=(HB.out.cell hb1).trans (hcell 1 (.int .i64 y.zI) rfl)
      have d2:=(HB.out.cell hb1).trans (hcell 2 (u2) rfl)
      rw[show off+(k * 3+0)=off+k * 3 by omega] at d0
      rw[show off+(k * 3+1)=off+k * 3+1 by omega] at d1
      rw[show off+(k * 3+2)=off+k * 3+2 by omega] at d2
      have RY2:=hide (T.yF hRY2 HB.out);clear hRY2
      clear hcs hcell
      obtain⟨ua2,uc2,rfl,ul2,um2,ux2⟩:=T.yN RY2.out;clear ux2
      have hq1:b1<wr.heap.size:=lL hb1 HB.out.size
      obtain⟨b9,o9,cs9,hA9,hb9,hcs9,hcell9⟩:=HX5.out k y HG.out
      obtain⟨rfl,rfl⟩:b1=b9∧off=o9:=by injection hA9 with e;injection e with e1 e2;exact⟨e1,e2⟩
      obtain⟨v9,rfl,hv9⟩:=xH.yO (show T.rds _ _ _ by simpa only[xH.t,T.rd] using hcs9)
      have e9:=(HB.out.cell hb9).trans (hcell9 2 v9 rfl)
      rw[show off+(k * 3+2)=off+k * 3+2 by omega] at e9
      obtain rfl:v9= .slice ua2 y.zM.length uc2:=Option.some.inj (e9.symm.trans d2)
      have UX2:=hide (rd_elems2 hv9);clear hv9 e9 hcell9 hcs9 hA9
      have HNM:=hide (HM.out.each k y HG.out).1
      have hlat:=uL.1 HNM.out.latency
      obtain⟨lN,hlN⟩: ∃ q:Nat,y.zI=(q:Int):=⟨y.zI.toNat,by omega⟩
      have HLN:=hide hlN;clear hlN
      have hsf:y.zM.length≤4:=(by by_cases e:(k:Int)=(x.zG.zC.length:Int) - 1;(· have:=HNM.out.sends.last e;omega);(· exact(HNM.out.sends.few e).2))
      have hle4:k<x.zP.length:=by have:=HEL.out;omega
      have hge:=gE hle4
      obtain⟨bE,oE,csE,hAE,hbE,hcsE,hcellE⟩:=HX4.out k _ hge
      have hEok:=HSO.out.effects k _ hge
      subst hAE
      have hgd:=hge
      generalize x.zP[k]=pe at *
      have HGE:=hide hge;have HEOK:=hide hEok;clear hge hgd hEok
      obtain⟨e1,e2,e3,rfl,hRE1,hRE2,hRE3⟩:=xG.yO (show T.rds _ _ _ by simpa only[xG.t,T.rd] using hcsE)
      have g0:=(HB.out.cell hbE).trans (hcellE 0 (.int .i64 pe.zJ) rfl)
      have g1:=(HB.out.cell hbE).trans (hcellE 1 (e1) rfl)
      have g2:=(HB.out.cell hbE).trans (hcellE 2 (e2) rfl)
      have g3:=(HB.out.cell hbE).trans (hcellE 3 (e3) rfl)
      rw[show oE+(k * 4+0)=oE+k * 4 by omega] at g0
      rw[show oE+(k * 4+1)=oE+k * 4+1 by omega] at g1
      rw[show oE+(k * 4+2)=oE+k * 4+2 by omega] at g2
      rw[show oE+(k * 4+3)=oE+k * 4+3 by omega] at g3
      have RE1:=hide (T.yF hRE1 HB.out);clear hRE1
      have RE2:=hide (T.yF hRE2 HB.out);clear hRE2
      have RE3:=hide (T.yF hRE3 HB.out);clear hRE3
      clear hcsE hcellE
      have REi:=hide (T.yT.1 RE3.out);obtain⟨ea3,ec3,rfl,-,-,-⟩:=REi.out.open_;obtain⟨ea1,ec1,rfl,-,-,-⟩:=T.yN RE1.out;obtain⟨ea2,ec2,rfl,-,-,-⟩:=T.yN RE2.out
      have lE:bE<wr.heap.size:=lL hbE HB.out.size
      have HPE:=hide (show T.rds wr pe.fs [.int .i64 pe.zJ,.slice ea1 pe.zN.length ec1,.slice ea2 pe.zB.length ec2,.slice ea3 pe.zK.length ec3] from xG.rd_mk RE1.out RE2.out (T.yT.2 REi.out))
      obtain⟨hIO,-⟩:=zCz HSO.out nn k (by omega)
      have HIO:=hide hIO;clear hIO
      obtain⟨l0,hl0,hl0d,hl0n,hl0s⟩:=HIO.out.get hlt
      have HL0:=hide hl0;have HL0d:=hide hl0d;have HL0s:=hide hl0s;clear hl0 hl0d hl0s
      have hbB1:w4.heap.size<wr.heap.size:=HMk.out.cel.bk.lt;have HLF0:=hide (fun b (hb:b ∈ F)=>(HMk.out.outs.lt b hb:b<wr.heap.size));have HLR0:=hide (fun g (hg:vr_.ownBlock=some g)=>((HMk.out.rdy.lt g hg).2:g<wr.heap.size))
      have HRX:=hide (show Below wr.heap.size wr (wr.alloc (.cells #[.string y.zV,.int .i64 y.zI,(.slice ua2 y.zM.length uc2)] 101)) from(Below.refl _ _).alloc (Nat.le_refl _) _)
      have HNX:=hide (Bk.born wr 101 #[.string y.zV,.int .i64 y.zI,(.slice ua2 y.zM.length uc2)]);have HMX:=hide (HMk.out.below HRX.out);have HKX:=hide (HKk.out.below HRX.out HKk.out.lt)
      have HPX:=hide (T.rds_below HPE.out HRX.out)
      have gX0:=(HRX.out.cell lE).trans g0;have gX1:=(HRX.out.cell lE).trans g1;have gX2:=(HRX.out.cell lE).trans g2;have gX3:=(HRX.out.cell lE).trans g3;have lEX:bE<(wr.alloc (.cells #[.string y.zV,.int .i64 y.zI,(.slice ua2 y.zM.length uc2)] 101)).heap.size:=lL lE HRX.out.size
      obtain⟨vri,hci,hri,-,-⟩:=HMX.out.cel.each _ _ HL0.out
      have HRi:=hide hri;have HCi:=hide ((HMX.out.cel.bk.cell k).trans hci);clear hri hci
      obtain⟨iA,il,ic,rfl⟩: ∃ A l c,vri= .slice A l c:=by obtain⟨A,c,e,_⟩:=HRi.out.open_;exact⟨A,_,c,e⟩
      have kn:=HNX.out.cell;have ln:=HNX.out.lt;clear ka la;have ka:=HKX.out.cell;have la:=HKX.out.lt;have ci:=HCi.out;have lbi:=HMX.out.cel.bk.lt
      have HDE:=hide (HDA.out k y HG.out);have HRE:=hide (HRD.out k y HG.out)
      have HSU:=hide (stripUp_step (n:=nn) HG.out)
      have HED:=hide (show x.zP.getD k uP=pe by rw[List.getD_eq_getElem?_getD,HGE.out];rfl)
      go_wp2_with fail
      generalize hWX:(wr.alloc (.cells #[.string y.zV,.int .i64 y.zI,(.slice ua2 y.zM.length uc2)] 101))=WX at *;clear hWX;generalize hB1:wr.heap.size=B1 at *;have HB1q:=hide hB1;clear hB1
      have HGX:=hide (And.intro gX0 (And.intro gX1 (And.intro gX2 gX3)))
      refine(c_isEmpty pe _ _ HPX.out).mono ?_;rintro e w6 ⟨rfl,hb⟩
      have HM6:=hide (HMX.out.below hb);have HN6:=hide (HNX.out.below hb HNX.out.lt);have HR6:=hide (RdI.below HRi.out hb);have HP6:=hide (T.rds_below HPX.out hb);have HG6:=hide (And.intro ((hb.cell lEX).trans gX0) (And.intro ((hb.cell lEX).trans gX1) (And.intro ((hb.cell lEX).trans gX2) ((hb.cell lEX).trans gX3))));have HK6:=hide (HKX.out.below hb HKX.out.lt)
      clear hb kn ln ka la ci lbi gX0 gX1 gX2 gX3 lEX g0 g1 g2 g3 lE d0 d1 d2
      by_cases he:pe=uP
      ·
       rw[xA he]
       have HYE:=hide (show wL x nn (xP x nn k).1 k y=lateF l0 lN l0.length by unfold wL;rw[HED.out,HL0d.out,HLN.out,Int.toNat_natCast,hl0n];unfold effF;rw[if_pos he])
       have HMt:=HM6;have HNt:=HN6;have HRt:=HR6;have HAL:=hide hl0n
       have HLF:=hide (fun b (hb:b ∈ F)=>HMt.out.outs.lt b hb);have HLR:=hide (fun g (hg:vr_.ownBlock=some g)=>(HMt.out.rdy.lt g hg).2);have HMF:=hide (fun g (hg:vo_.ownBlock=some g)=>HMt.out.outs.mem g hg)
       have HKt:=hide (HK4.out.below HMt.out.bel HK4.out.lt);have kn:=HNt.out.cell;have ln:=HNt.out.lt
       go_wp2_with fail
       refine(c_delayed' _ l0 lN _ HLN.out HRt.out (by have:=HAL.out;omega) (by have:=HLN.out;omega)).mono ?_;rintro e w7 ⟨v7,rfl,ho,hb⟩
       rw[←HYE.out] at ho
       obtain⟨yA,yl,yc,rfl⟩: ∃ A l c,v7= .slice A l c:=by obtain⟨A,c,e,_⟩:=(OwI.rd ho).open_;exact⟨A,_,c,e⟩
       have hs7:=hb.size;have HY7:=hide ho;have HM7:=hide (HMt.out.addv hb (v:= .slice yA yl yc) (fun g hg=>ho.lt g hg));have HN7:=hide (HNt.out.below hb HNt.out.lt);have hlbt:=HMt.out.cel.bk.lt;have hlnt:=HNt.out.lt;clear ho hb kn ln HMt HNt
       have HYL:=hide (stripY_ok (i:=k) (x:=y) HSO.out HIO.out hlt)
       have HSK:=hide (sendUp_ok (y:=wL x nn (xP x nn k).1 k y) (waits:=(wX x.zG).getD k []) HIO.out (to_lt HM.out HG.out))
       have HDK:=hide (show (wX x.zG).getD k []=y.zM.map (uD (xV x.zG) k y) by rw[List.getD_eq_getElem?_getD,HDE.out];rfl)
       have HWT:=hide (fun q z (h:y.zM[q]?=some z)=>wait_ok HM.out HG.out h)
       have HKs:=hide (HK4.out.below HM7.out.bel HK4.out.lt);have kn:=HN7.out.cell;have ln:=HN7.out.lt
       go_wp2
       go_loopw [130] (fun i wr=> ∃ (q:Nat) (cs:Array Value),q≤y.zM.length∧i= .int .i64 (q:Int)∧StM w4 wr w4.heap.size ((Value.slice yA yl yc).ownBlock.toList++A) F cs (uF (wL x nn (xP x nn k).1 k y) nn ((wX x.zG).getD k []) y.zM (xP x nn k).1 q) (xP x nn k).2 vo_ vr_ ((readyF x.zG).take k)∧Trn [w4.heap.size] w7 wr) (fun i _=>y.zM.length - (intOf i).toNat)
       case atStart=>exact⟨0,cs,Nat.zero_le _,rfl,HM7.out,Trn.refl _ _⟩
       case round=>
        obtain⟨q,cs',hq,rfl,hm,htr⟩:=hrel
        have HMq:=hide hm;have HTq:=hide htr;have HBq:=hide (yJ HB4.out HB4.out.size hm.bel);have hsq:=htr.size;clear hm htr kn ln
        have HNq:=hide (HN7.out.trn HTq.out (by simp;omega));have HKq:=hide (HK4.out.below HMq.out.bel HK4.out.lt);have HYq:=hide (own_trnF HY7.out HTq.out (fun g hg=>by simp at hg;omega))
        have kn:=HNq.out.cell;have ln:=HNq.out.lt;have ka:=HKq.out.cell;have la:=HKq.out.lt
        by_cases hlq:q<y.zM.length
        rotate_left
        ·
         obtain rfl:q=y.zM.length:=by omega
         have hlo2:(xP x nn k).2.length+1≤24:=by have:=(zCz HSO.out nn k (by omega)).2.len;omega
         have HNo:=hide (show T.ow wr (T.ints 2 (wL x nn (xP x nn k).1 k y)) (Value.slice yA yl yc).ownBlock.toList [.slice yA yl yc] from T.ow_ints.2 ⟨OwI.more HYq.out (Nat.zero_le _),rfl⟩)
         have hYnd:(Value.slice yA yl yc).ownBlock.toList.Nodup:=by cases (Value.slice yA yl yc).ownBlock<;>simp
         have hwq:w4.heap.size≤wr.heap.size:=HMq.out.bel.size
         go_wp2_with (at_builtin;refine app1_T rfl _ _ _ rfl w4.heap.size 26 _ 1 24 Tryz.underlying24 wU rfl (by omega) rfl HMq.out.outs HNo.out hYnd (fun b hb=>by have h:=(HYq.out.lt b (by simpa using hb)).1;omega) (fun b hb hb2=>by have h:=(HYq.out.lt b (by simpa using hb2)).1;have h2:=HLF.out b hb;omega) rfl rfl (by rw[List.length_map];omega) (by rw[List.length_map];omega) hwq ?_;intro v8 w8 F8 ho8 hg8 hv8;have HO8:=hide ho8;have HG8:=hide hg8;have HV8:=hide hv8;clear ho8 hg8 hv8)
         have HM8:=hide (HMq.out.out (y:=wL x nn (xP x nn k).1 k y) (Fx:=(Value.slice yA yl yc).ownBlock.toList) (by have h:=HO8.out;rw[List.map_append];exact h) HG8.out HV8.out (fun b hb=>⟨List.mem_append_left _ hb,by have h:=(HYq.out.lt b (by simpa using hb)).1;omega,fun e=>by have h:=(HYq.out.lt b (by simpa using hb)).1;have h2:=HLR.out b e;omega⟩))
         have HN8:=hide (HNq.out.grown HG8.out (fun e=>by have h1:=HLF0.out _ (HMF.out _ e.symm);omega))
         clear HMq kn ln ka la
         obtain⟨tb,gtb,dtb,tb0,tb1⟩:=HENT.out k hlt
         have hwt:IntKind.i64.wrap (tb+y.zI)=tb+y.zI:=IntWalk.i64_in _ (by omega)
         have HTB:=hide ((HM8.out.bel.cell hbT).trans (HTC.out _ _ gtb));have HTB0:=hide (HTC.out _ _ gtb);clear gtb
         have HRN:=hide (show (readyF x.zG).take (k+1)=(readyF x.zG).take k++ [tb+y.zI] by rw[xQ HRE.out,dtb]);clear dtb
         have hrl:((readyF x.zG).take k).length≤8:=by rw[List.length_take];omega
         go_wp2
         have HDs:=hide ((Below.refl w8.heap.size w8).drew)
         have HKQ:=hide (fun(w':World) (hw:Below w8.heap.size w8 w')=>(⟨(HN8.out.below hw HN8.out.lt).cell,(hw.cell (World.block_lt_of_cell? _ _ HTB.out)).trans HTB.out⟩:(∀ i,w'.cell? ⟨B1,i,none⟩= #[.string y.zV,.int .i64 y.zI,(.slice ua2 y.zM.length uc2)][i]?)∧w'.cell? ⟨bT,oT+k,none⟩=some (.int .i64 tb)))
         refine wE (fun w'=>(∀ i,w'.cell? ⟨B1,i,none⟩= #[.string y.zV,.int .i64 y.zI,(.slice ua2 y.zM.length uc2)][i]?)∧w'.cell? ⟨bT,oT+k,none⟩=some (.int .i64 tb)) [] (by kernel_rfl) ?_ (fun hS0=>?_)
         ·exact HKQ.out _ HDs.out
         generalize hwd8:w8.drew=we at *;clear hwd8
         refine tN 0 hS0 ?_
         refine tN 1 hS0 ?_
         refine tN 2 hS0 ?_
         refine tN 3 hS0 ?_
         refine tN 4 hS0 ?_
         refine tN 5 hS0 ?_
         refine tN 6 hS0 ?_
         refine tN 7 hS0 ?_
         have HA9:=hide (show Below we.heap.size we (we.alloc (.cells #[.int .i64 (tb+y.zI)] 2)) from(Below.refl _ _).alloc (Nat.le_refl _) _);have HD9:=hide (yJ HDs.out HDs.out.size HA9.out);have HM9:=hide (HM8.out.below HD9.out);have HL9:=hide (OwI.rd (lit1 we (tb+y.zI)))
         refine oN 8 (fun K hK=>?_)
         go_simp
         refine uN hK ?_ (fun hS1=>?_)
         ·exact HKQ.out _ HD9.out
         clear hK K hS0
         refine oN 9 (fun K hK=>?_)
         refine vQ rfl _ _ rfl rfl HM9.out.rdy (ys:= [tb+y.zI]) rfl HL9.out (by simp only[List.length_cons,List.length_nil];omega) HM9.out.bel.size ?_;intro v10 w10 ho hg hv
         have HM10:=hide (HM9.out.time ho hg hv);have HN10:=hide ((HN8.out.below HD9.out HN8.out.lt).grown hg (fun e=>by have h1:=HLR0.out _ e.symm;omega));have HT10:=hide ((HM10.out.bel.cell hbT).trans (HTB0.out));clear ho hg hv
         refine uN hK ?_ (fun hS2=>?_)
         ·exact⟨HN10.out.cell,HT10.out⟩
         clear hK K hS1
         refine oN 10 (fun K hK=>?_)
         go_simp
         refine uN hK ?_ (fun hS3=>?_)
         ·exact⟨HN10.out.cell,HT10.out⟩
         clear hK K hS2
         refine xY (by kernel_rfl) ?_
         clear hS3
         go_wp2
         go_roundw
         case rel=>unfold RelS;exact⟨k+1,_,_,cs',_,_,by omega,by go_num,rfl,rfl,by rw[HSU.out,HRN.out];exact HM10.out⟩
         case measure=>simp[intOf];omega
        have hgq:=gE hlq
        obtain⟨b2,off2,cs2,hA2,hb2,hcs2,hcell2⟩:=UX2.out q y.zM[q] hgq
        subst hA2
        generalize y.zM[q]=z at *
        have HGZ:=hide hgq;clear hgq
        obtain rfl:=xM.yO (show T.rds _ _ _ by simpa only[xM.t,T.rd] using hcs2)
        have s0:=(HBq.out.cell hb2).trans (hcell2 0 (.int .i64 z.zW) rfl)
        have s1:=(HBq.out.cell hb2).trans (hcell2 1 (.int .i64 z.zS) rfl)
        rw[show off2+(q * 2+0)=off2+q * 2 by omega] at s0
        rw[show off2+(q * 2+1)=off2+q * 2+1 by omega] at s1
        clear hcs2 hcell2
        have lb2:b2<wr.heap.size:=lL hb2 HBq.out.size
        obtain⟨t0,t1,_⟩:=vX HM.out HG.out q z HGZ.out
        have hgn:=(HNM.out.sends.each q z HGZ.out).2
        have HGNS:=hide hgn;clear hgn
        obtain⟨toN,htoN⟩: ∃ q:Nat,z.zW=(q:Int):=⟨z.zW.toNat,by omega⟩
        have htom:toN<x.zG.zC.length:=by omega
        obtain⟨l1,hl1,hl1d,hl1n,hl1s⟩:=(HSK.out q).get htom
        obtain⟨wN,hwN⟩: ∃ q:Nat,uD (xV x.zG) k y z=(q:Int):=⟨(uD (xV x.zG) k y z).toNat,by have:=HWT.out q z HGZ.out;omega⟩
        have hwb:=HWT.out q z HGZ.out;have hwb2:wN≤256:=by omega
        have hgw:(y.zM.map (uD (xV x.zG) k y))[q]?=some (wN:Int):=by rw[List.getElem?_map,HGZ.out,←hwN];rfl
        have HSS:=hide (show uF (wL x nn (xP x nn k).1 k y) nn ((wX x.zG).getD k []) y.zM (xP x nn k).1 (q+1)=(uF (wL x nn (xP x nn k).1 k y) nn ((wX x.zG).getD k []) y.zM (xP x nn k).1 q).set toN (addS l1 (lateF (wL x nn (xP x nn k).1 k y) wN (wL x nn (xP x nn k).1 k y).length) z.zS) by rw[sendUp_step HGZ.out,htoN,Int.toNat_natCast,hl1d,HYL.out.1,HDK.out,List.getD_eq_getElem?_getD (l:=y.zM.map _),hgw]<;>rfl);clear hl1d hwN hwb;generalize z.zW=zt at *;subst htoN;have hto2:(toN:Int)<(x.zG.zC.length:Int):=t1;clear t0 t1
        obtain⟨bW,oW,csW,hAW,hbW,hcsW,hcellW⟩:=HDX.out k _ HDE.out
        subst hAW
        obtain⟨vW,rfl⟩:=T.rd_one hcsW
        have eW:=hcellW 0 vW rfl;rw[Nat.mul_one,Nat.add_zero] at eW
        obtain⟨bQ,oQ,cQ,rfl,hcQ,hmQ,hbQ,hxQ⟩:=xO (T.yT.1 hcsW) (by rw[List.length_map];omega)
        simp only[List.length_map] at eW hmQ hcQ
        have eQ:=hxQ q _ hgw;clear hxQ hcsW hcellW hgw
        have HEW:=hide ((HMq.out.bel.cell hbW).trans eW);have HEQ:=hide ((HMq.out.bel.cell hbQ).trans eQ);clear eW eQ
        have HAZ:=hide (show Below wr.heap.size wr (wr.alloc (.cells #[.int .i64 (toN:Int),.int .i64 z.zS] 98)) from(Below.refl _ _).alloc (Nat.le_refl _) _)
        have HZz:=hide (Bk.born wr 98 #[.int .i64 (toN:Int),.int .i64 z.zS]);have HMz:=hide (HMq.out.below HAZ.out)
        obtain⟨vrj,hcj,hrj,-,-⟩:=HMz.out.cel.each _ _ hl1
        have HRj:=hide hrj;have HCj:=hide ((HMz.out.cel.bk.cell toN).trans hcj);clear hrj hcj
        have HL1:=hide hl1;have HL1s:=hide hl1s;clear hl1 hl1s
        have HEWz:=hide ((HAZ.out.cell (World.block_lt_of_cell? _ _ HEW.out)).trans HEW.out);have HEQz:=hide ((HAZ.out.cell (World.block_lt_of_cell? _ _ HEQ.out)).trans HEQ.out);have HYz:=hide (wO HYq.out HAZ.out);have HTz:=hide (HTq.out.trans (Trn.of_below HAZ.out))
        clear kn ln ka la;have kz:=HZz.out.cell;have lz:=HZz.out.lt
        go_wp2
        have HAZs:=hide HAZ.out.size
        generalize hWZ:(wr.alloc (.cells #[.int .i64 (toN:Int),.int .i64 z.zS] 98))=WZ at *;clear hWZ
        generalize hB2:wr.heap.size=B2 at *;have HB2q:=hide hB2;clear hB2 kz lz s0 s1
        have HDz:=hide ((Below.refl WZ.heap.size WZ).drew)
        have HKZ:=hide (fun(w':World) (hw:Below WZ.heap.size WZ w')=>(⟨(HZz.out.below hw HZz.out.lt).cell,(hw.cell (World.block_lt_of_cell? _ _ HCj.out)).trans HCj.out,(hw.cell (World.block_lt_of_cell? _ _ HEWz.out)).trans HEWz.out,(hw.cell (World.block_lt_of_cell? _ _ HEQz.out)).trans HEQz.out⟩:(∀ i,w'.cell? ⟨B2,i,none⟩= #[.int .i64 (toN:Int),.int .i64 z.zS][i]?)∧w'.cell? ⟨w4.heap.size,toN,none⟩=some vrj∧w'.cell? ⟨bW,oW+k,none⟩=some (.slice (some ⟨bQ,oQ,none⟩) y.zM.length cQ)∧w'.cell? ⟨bQ,oQ+q,none⟩=some (.int .i64 (wN:Int))))
        refine wK (fun w'=>(∀ i,w'.cell? ⟨B2,i,none⟩= #[.int .i64 (toN:Int),.int .i64 z.zS][i]?)∧w'.cell? ⟨w4.heap.size,toN,none⟩=some vrj∧w'.cell? ⟨bW,oW+k,none⟩=some (.slice (some ⟨bQ,oQ,none⟩) y.zM.length cQ)∧w'.cell? ⟨bQ,oQ+q,none⟩=some (.int .i64 (wN:Int))) 21 (by kernel_rfl) ?_ (fun hS0=>?_)
        ·exact HKZ.out _ HDz.out
        generalize hwdz:WZ.drew=wz at *;clear hwdz
        refine tE 0 hS0 ?_
        refine tE 1 hS0 ?_
        refine tE 2 hS0 ?_
        refine tE 3 hS0 ?_
        refine tE 4 hS0 ?_
        refine tE 5 hS0 ?_
        refine tE 6 hS0 ?_
        refine tE 7 hS0 ?_
        refine tE 8 hS0 ?_
        refine tE 9 hS0 ?_
        refine tE 10 hS0 ?_
        refine tE 11 hS0 ?_
        refine tE 12 hS0 ?_
        refine tE 13 hS0 ?_
        refine tE 14 hS0 ?_
        refine tE 15 hS0 ?_
        refine tE 16 hS0 ?_
        refine tE 17 hS0 ?_
        refine oE 18 (fun K hK=>?_)
        go_simp
        go_wp2_with (go_at_call 196;refine(c_delayed _ (wL x nn (xP x nn k).1 k y) wN _ (RdI.below (OwI.rd HYz.out) HDz.out) (by rw[HYL.out.1];omega) (by omega)).mono ?_;rintro e w9 ⟨v9,rfl,ho,hb⟩)
        have HY9:=hide (OwI.rd ho);have HD9:=hide (yJ HDz.out HDz.out.size hb);clear ho hb
        refine uE hK ?_ (fun hS1=>?_)
        ·exact HKZ.out _ HD9.out
        clear hK K hS0
        refine oE 19 (fun K hK=>?_)
        go_simp
        go_wp2_with (go_at_call 195;refine(c_addTimes _ _ l1 _ z.zS _ (RdI.below HRj.out HD9.out) HY9.out HL1s.out (smp_lateF HYL.out.2) HGNS.out (by omega) (by rw[uA,HYL.out.1];omega)).mono ?_;rintro e w10 ⟨v10,rfl,ho,hb⟩)
        have HO10:=hide ho;have HD10:=hide (yJ HD9.out HD9.out.size hb);have hs10:=HD9.out.size;clear ho hb
        refine uE hK ?_ (fun hS2=>?_)
        ·exact HKZ.out _ HD10.out
        clear hK K hS1
        refine tE 20 hS2 ?_
        refine wJ (o:=_) (by kernel_rfl) rfl (by kernel_rfl) ?_
        obtain⟨zA,zl,zc,rfl⟩: ∃ A l c,v10= .slice A l c:=by obtain⟨A,c,e,_⟩:=(OwI.rd HO10.out).open_;exact⟨A,_,c,e⟩
        have HM10:=hide (HMz.out.below HD10.out);have HT10:=hide (HTz.out.trans (Trn.of_below HD10.out));have HAZ_:=hide HD9.out.size;have hz3:=HAZs.out
        have ck:=(HM10.out.cel.bk.cell toN);obtain⟨vq,hq1,-⟩:=HM10.out.cel.each _ _ HL1.out;rw[hq1] at ck;have fr:=HM10.out.cel.bk.free toN;have lc:=HM10.out.cel.bk.lt;clear hq1
        go_wp2
        go_roundw
        case rel=>exact⟨q+1,_,by omega,by go_num,by rw[HSS.out];exact HM10.out.put HL1.out (OwI.rd HO10.out) (fun g hg e=>by have h:=(HO10.out.lt _ e).1;have h2:=HMq.out.alt g hg;have h3:=HAZ_.out;have h4:=HAZs.out;have h5:=HB2q.out;have h6:=HDz.out.size;omega) (fun g hg=>(HO10.out.lt g hg).2),HT10.out.trans (Trn.set_ (g:=w4.heap.size) (by simp) toN (.slice zA zl zc))⟩
        case measure=>simp[intOf];omega
      rw[yZ he]
      obtain⟨hpo,hpi,hpu⟩:wZ pe∧pe.zJ=1∧pe.zK.length=1:=by rcases HEOK.out with h|h<;>first|exact absurd h he|exact h
      have HYE:=hide (show wL x nn (xP x nn k).1 k y=lateF (rowF pe l0 nn) lN (rowF pe l0 nn).length by unfold wL;rw[HED.out,HL0d.out,HLN.out,Int.toNat_natCast,effF_row hpu he,uV])
      have HPO:=hide hpo;have HPI:=hide hpi;have HPU:=hide hpu;clear hpo hpi hpu he
      have ka:=HK6.out.cell;have la:=HK6.out.lt
      go_wp2_with fail
      rename_i Q22 K22 hK22
      have REST22: ∀ (u17 u18 u19 u95 u96 u97 u98 u99 u100 u101 u102 u103 u104 u105 u106 u107 u108 u109 u110 u111 u112 u113 u114 u115 u116 u117 u118 u119 u120 u121 u122 u123 u124 u125 u126 u127 u128 u129 u130 u131 u132 u133 u134 u135 u136 u137 u138 u139 u140 u141 u142 u143 u144 u145 u146 u147 u148 u149 u150 u151 u152 u153 u154 u155 u156 u157 u158 u159 u160 u161 u162 u163 u164 u165 u166 u167 u168 u169 u170 u171:Value) (W:World),StM w4 W w4.heap.size A F cs (xP x nn k).1 (xP x nn k).2 vo_ vr_ ((readyF x.zG).take k)→RdI W u17 (rowF pe l0 nn)→Bk W B1 101 #[.string y.zV,.int .i64 y.zI,(.slice ua2 y.zM.length uc2)]→K22 { tmps:= #[.agg #[.int .i64 x.zF,(.slice va1 x.zL.length vc1),(.slice va2 x.zO.length vc2),(.slice va3 x.zQ.length vc3),(.slice (some ⟨bE,oE,none⟩) x.zP.length vc4),(.slice (some ⟨b1,off,none⟩) x.zG.zC.length vc5)],.pointer (some ⟨w.heap.size,0,none⟩),.slice none 0 0,.slice none 0 0,.int .i64 (nn:Int),.slice (some ⟨bT,oT,none⟩) x.zG.zC.length cT,.slice DA x.zG.zC.length dcap,.slice (some ⟨w4.heap.size,0,none⟩) x.zG.zC.length x.zG.zC.length,u8,u9,u10,u11,u12,vo_,vr_,.int .i64 (k:Int),.pointer (some ⟨B1,0,none⟩),u17,u18,u19,.pointer (some ⟨w.heap.size,0,none⟩),.int .i64 x.zF,.pointer (some ⟨w.heap.size,5,none⟩),.agg #[.slice (some ⟨b1,off,none⟩) x.zG.zC.length vc5],.int .i64 (vN x.zG),.int .i64 (nn:Int),.pointer (some ⟨w.heap.size,5,none⟩),.agg #[.slice (some ⟨b1,off,none⟩) x.zG.zC.length vc5],.slice (some ⟨bT,oT,none⟩) x.zG.zC.length cT,.pointer (some ⟨w.heap.size,5,none⟩),.agg #[.slice (some ⟨b1,off,none⟩) x.zG.zC.length vc5],.slice DA x.zG.zC.length dcap,.pointer (some ⟨w.heap.size,5,none⟩),.pointer (some ⟨w.heap.size,5,none⟩),.slice (some ⟨b1,off,none⟩) x.zG.zC.length vc5,.int .i64 (x.zG.zC.length:Int),.slice (some ⟨w4.heap.size,0,none⟩) x.zG.zC.length x.zG.zC.length,.slice (some ⟨w4.heap.size,0,none⟩) x.zG.zC.length x.zG.zC.length,.int .i64 (x.zG.zC.length:Int),.int .i64 (x.zG.zC.length:Int),.bool false,u41,u42,u43,u44,u45,u46,u47,.pointer (some ⟨w.heap.size,2,none⟩),.slice va2 x.zO.length vc2,.int .i64 (x.zO.length:Int),.int .i64 (x.zO.length:Int),.bool false,u53,u54,u55,u56,u57,u58,u59,u60,u61,u62,u63,u64,u65,u66,u67,u68,u69,u70,u71,u72,u73,u74,u75,u76,u77,u78,u79,u80,u81,u82,u83,u84,u85,u86,u87,.slice (some ⟨wr0.heap.size,0,none⟩) 0 0,.slice (some ⟨wr0.heap.size+1,0,none⟩) 0 0,.pointer (some ⟨w.heap.size,5,none⟩),.pointer (some ⟨w.heap.size,5,none⟩),.slice (some ⟨b1,off,none⟩) x.zG.zC.length vc5,.int .i64 (x.zG.zC.length:Int),.int .i64 (k:Int),u95,u96,u97,u98,u99,u100,u101,u102,u103,u104,u105,u106,u107,u108,u109,u110,u111,u112,u113,u114,u115,u116,u117,u118,u119,u120,u121,u122,u123,u124,u125,u126,u127,u128,u129,u130,u131,u132,u133,u134,u135,u136,u137,u138,u139,u140,u141,u142,u143,u144,u145,u146,u147,u148,u149,u150,u151,u152,u153,u154,u155,u156,u157,u158,u159,u160,u161,u162,u163,u164,u165,u166,u167,u168,u169,u170,u171,undef,undef],defers:= [] } W:=by
       intro u17 u18 u19 u95 u96 u97 u98 u99 u100 u101 u102 u103 u104 u105 u106 u107 u108 u109 u110 u111 u112 u113 u114 u115 u116 u117 u118 u119 u120 u121 u122 u123 u124 u125 u126 u127 u128 u129 u130 u131 u132 u133 u134 u135 u136 u137 u138 u139 u140 u141 u142 u143 u144 u145 u146 u147 u148 u149 u150 u151 u152 u153 u154 u155 u156 u157 u158 u159 u160 u161 u162 u163 u164 u165 u166 u167 u168 u169 u170 u171 w6' hm hr hn
       have HMt:=hide hm;have HRt:=hide hr;have HNt:=hide hn;have HAL:=hide (uV pe l0 nn);clear hm hr hn
       refine hK22 _ _ ?_
       clear hK22 K22 ka la HM6 HN6 HR6 HP6 HG6 HK6
       have HLF:=hide (fun b (hb:b ∈ F)=>HMt.out.outs.lt b hb);have HLR:=hide (fun g (hg:vr_.ownBlock=some g)=>(HMt.out.rdy.lt g hg).2);have HMF:=hide (fun g (hg:vo_.ownBlock=some g)=>HMt.out.outs.mem g hg)
       have HKt:=hide (HK4.out.below HMt.out.bel HK4.out.lt);have kn:=HNt.out.cell;have ln:=HNt.out.lt
       go_wp2_with fail
       refine(c_delayed' _ (rowF pe l0 nn) lN _ HLN.out HRt.out (by have:=HAL.out;omega) (by have:=HLN.out;omega)).mono ?_;rintro e w7 ⟨v7,rfl,ho,hb⟩
       rw[←HYE.out] at ho
       obtain⟨yA,yl,yc,rfl⟩: ∃ A l c,v7= .slice A l c:=by obtain⟨A,c,e,_⟩:=(OwI.rd ho).open_;exact⟨A,_,c,e⟩
       have hs7:=hb.size;have HY7:=hide ho;have HM7:=hide (HMt.out.addv hb (v:= .slice yA yl yc) (fun g hg=>ho.lt g hg));have HN7:=hide (HNt.out.below hb HNt.out.lt);have hlbt:=HMt.out.cel.bk.lt;have hlnt:=HNt.out.lt;clear ho hb kn ln HMt HNt
       have HYL:=hide (stripY_ok (i:=k) (x:=y) HSO.out HIO.out hlt)
       have HSK:=hide (sendUp_ok (y:=wL x nn (xP x nn k).1 k y) (waits:=(wX x.zG).getD k []) HIO.out (to_lt HM.out HG.out))
       have HDK:=hide (show (wX x.zG).getD k []=y.zM.map (uD (xV x.zG) k y) by rw[List.getD_eq_getElem?_getD,HDE.out];rfl)
       have HWT:=hide (fun q z (h:y.zM[q]?=some z)=>wait_ok HM.out HG.out h)
       have HKs:=hide (HK4.out.below HM7.out.bel HK4.out.lt);have kn:=HN7.out.cell;have ln:=HN7.out.lt
       go_wp2
       go_loopw [130] (fun i wr=> ∃ (q:Nat) (cs:Array Value),q≤y.zM.length∧i= .int .i64 (q:Int)∧StM w4 wr w4.heap.size ((Value.slice yA yl yc).ownBlock.toList++A) F cs (uF (wL x nn (xP x nn k).1 k y) nn ((wX x.zG).getD k []) y.zM (xP x nn k).1 q) (xP x nn k).2 vo_ vr_ ((readyF x.zG).take k)∧Trn [w4.heap.size] w7 wr) (fun i _=>y.zM.length - (intOf i).toNat)
       case atStart=>exact⟨0,cs,Nat.zero_le _,rfl,HM7.out,Trn.refl _ _⟩
       case round=>
        obtain⟨q,cs',hq,rfl,hm,htr⟩:=hrel
        have HMq:=hide hm;have HTq:=hide htr;have HBq:=hide (yJ HB4.out HB4.out.size hm.bel);have hsq:=htr.size;clear hm htr kn ln
        have HNq:=hide (HN7.out.trn HTq.out (by simp;omega));have HKq:=hide (HK4.out.below HMq.out.bel HK4.out.lt);have HYq:=hide (own_trnF HY7.out HTq.out (fun g hg=>by simp at hg;omega))
        have kn:=HNq.out.cell;have ln:=HNq.out.lt;have ka:=HKq.out.cell;have la:=HKq.out.lt
        by_cases hlq:q<y.zM.length
        rotate_left
        ·
         obtain rfl:q=y.zM.length:=by omega
         have hlo2:(xP x nn k).2.length+1≤24:=by have:=(zCz HSO.out nn k (by omega)).2.len;omega
         have HNo:=hide (show T.ow wr (T.ints 2 (wL x nn (xP x nn k).1 k y)) (Value.slice yA yl yc).ownBlock.toList [.slice yA yl yc] from T.ow_ints.2 ⟨OwI.more HYq.out (Nat.zero_le _),rfl⟩)
         have hYnd:(Value.slice yA yl yc).ownBlock.toList.Nodup:=by cases (Value.slice yA yl yc).ownBlock<;>simp
         have hwq:w4.heap.size≤wr.heap.size:=HMq.out.bel.size
         go_wp2_with (at_builtin;refine app1_T rfl _ _ _ rfl w4.heap.size 26 _ 1 24 Tryz.underlying24 wU rfl (by omega) rfl HMq.out.outs HNo.out hYnd (fun b hb=>by have h:=(HYq.out.lt b (by simpa using hb)).1;omega) (fun b hb hb2=>by have h:=(HYq.out.lt b (by simpa using hb2)).1;have h2:=HLF.out b hb;omega) rfl rfl (by rw[List.length_map];omega) (by rw[List.length_map];omega) hwq ?_;intro v8 w8 F8 ho8 hg8 hv8;have HO8:=hide ho8;have HG8:=hide hg8;have HV8:=hide hv8;clear ho8 hg8 hv8)
         have HM8:=hide (HMq.out.out (y:=wL x nn (xP x nn k).1 k y) (Fx:=(Value.slice yA yl yc).ownBlock.toList) (by have h:=HO8.out;rw[List.map_append];exact h) HG8.out HV8.out (fun b hb=>⟨List.mem_append_left _ hb,by have h:=(HYq.out.lt b (by simpa using hb)).1;omega,fun e=>by have h:=(HYq.out.lt b (by simpa using hb)).1;have h2:=HLR.out b e;omega⟩))
         have HN8:=hide (HNq.out.grown HG8.out (fun e=>by have h1:=HLF0.out _ (HMF.out _ e.symm);omega))
         clear HMq kn ln ka la
         obtain⟨tb,gtb,dtb,tb0,tb1⟩:=HENT.out k hlt
         have hwt:IntKind.i64.wrap (tb+y.zI)=tb+y.zI:=IntWalk.i64_in _ (by omega)
         have HTB:=hide ((HM8.out.bel.cell hbT).trans (HTC.out _ _ gtb));have HTB0:=hide (HTC.out _ _ gtb);clear gtb
         have HRN:=hide (show (readyF x.zG).take (k+1)=(readyF x.zG).take k++ [tb+y.zI] by rw[xQ HRE.out,dtb]);clear dtb
         have hrl:((readyF x.zG).take k).length≤8:=by rw[List.length_take];omega
         go_wp2
         have HDs:=hide ((Below.refl w8.heap.size w8).drew)
         have HKQ:=hide (fun(w':World) (hw:Below w8.heap.size w8 w')=>(⟨(HN8.out.below hw HN8.out.lt).cell,(hw.cell (World.block_lt_of_cell? _ _ HTB.out)).trans HTB.out⟩:(∀ i,w'.cell? ⟨B1,i,none⟩= #[.string y.zV,.int .i64 y.zI,(.slice ua2 y.zM.length uc2)][i]?)∧w'.cell? ⟨bT,oT+k,none⟩=some (.int .i64 tb)))
         refine wE (fun w'=>(∀ i,w'.cell? ⟨B1,i,none⟩= #[.string y.zV,.int .i64 y.zI,(.slice ua2 y.zM.length uc2)][i]?)∧w'.cell? ⟨bT,oT+k,none⟩=some (.int .i64 tb)) [] (by kernel_rfl) ?_ (fun hS0=>?_)
         ·exact HKQ.out _ HDs.out
         generalize hwd8:w8.drew=we at *;clear hwd8
         refine tN 0 hS0 ?_
         refine tN 1 hS0 ?_
         refine tN 2 hS0 ?_
         refine tN 3 hS0 ?_
         refine tN 4 hS0 ?_
         refine tN 5 hS0 ?_
         refine tN 6 hS0 ?_
         refine tN 7 hS0 ?_
         have HA9:=hide (show Below we.heap.size we (we.alloc (.cells #[.int .i64 (tb+y.zI)] 2)) from(Below.refl _ _).alloc (Nat.le_refl _) _);have HD9:=hide (yJ HDs.out HDs.out.size HA9.out);have HM9:=hide (HM8.out.below HD9.out);have HL9:=hide (OwI.rd (lit1 we (tb+y.zI)))
         refine oN 8 (fun K hK=>?_)
         go_simp
         refine uN hK ?_ (fun hS1=>?_)
         ·exact HKQ.out _ HD9.out
         clear hK K hS0
         refine oN 9 (fun K hK=>?_)
         refine vQ rfl _ _ rfl rfl HM9.out.rdy (ys:= [tb+y.zI]) rfl HL9.out (by simp only[List.length_cons,List.length_nil];omega) HM9.out.bel.size ?_;intro v10 w10 ho hg hv
         have HM10:=hide (HM9.out.time ho hg hv);have HN10:=hide ((HN8.out.below HD9.out HN8.out.lt).grown hg (fun e=>by have h1:=HLR0.out _ e.symm;omega));have HT10:=hide ((HM10.out.bel.cell hbT).trans (HTB0.out));clear ho hg hv
         refine uN hK ?_ (fun hS2=>?_)
         ·exact⟨HN10.out.cell,HT10.out⟩
         clear hK K hS1
         refine oN 10 (fun K hK=>?_)
         go_simp
         refine uN hK ?_ (fun hS3=>?_)
         ·exact⟨HN10.out.cell,HT10.out⟩
         clear hK K hS2
         refine xY (by kernel_rfl) ?_
         clear hS3
         go_wp2
         go_roundw
         case rel=>unfold RelS;exact⟨k+1,_,_,cs',_,_,by omega,by go_num,rfl,rfl,by rw[HSU.out,HRN.out];exact HM10.out⟩
         case measure=>simp[intOf];omega
        have hgq:=gE hlq
        obtain⟨b2,off2,cs2,hA2,hb2,hcs2,hcell2⟩:=UX2.out q y.zM[q] hgq
        subst hA2
        generalize y.zM[q]=z at *
        have HGZ:=hide hgq;clear hgq
        obtain rfl:=xM.yO (show T.rds _ _ _ by simpa only[xM.t,T.rd] using hcs2)
        have s0:=(HBq.out.cell hb2).trans (hcell2 0 (.int .i64 z.zW) rfl)
        have s1:=(HBq.out.cell hb2).trans (hcell2 1 (.int .i64 z.zS) rfl)
        rw[show off2+(q * 2+0)=off2+q * 2 by omega] at s0
        rw[show off2+(q * 2+1)=off2+q * 2+1 by omega] at s1
        clear hcs2 hcell2
        have lb2:b2<wr.heap.size:=lL hb2 HBq.out.size
        obtain⟨t0,t1,_⟩:=vX HM.out HG.out q z HGZ.out
        have hgn:=(HNM.out.sends.each q z HGZ.out).2
        have HGNS:=hide hgn;clear hgn
        obtain⟨toN,htoN⟩: ∃ q:Nat,z.zW=(q:Int):=⟨z.zW.toNat,by omega⟩
        have htom:toN<x.zG.zC.length:=by omega
        obtain⟨l1,hl1,hl1d,hl1n,hl1s⟩:=(HSK.out q).get htom
        obtain⟨wN,hwN⟩: ∃ q:Nat,uD (xV x.zG) k y z=(q:Int):=⟨(uD (xV x.zG) k y z).toNat,by have:=HWT.out q z HGZ.out;omega⟩
        have hwb:=HWT.out q z HGZ.out;have hwb2:wN≤256:=by omega
        have hgw:(y.zM.map (uD (xV x.zG) k y))[q]?=some (wN:Int):=by rw[List.getElem?_map,HGZ.out,←hwN];rfl
        have HSS:=hide (show uF (wL x nn (xP x nn k).1 k y) nn ((wX x.zG).getD k []) y.zM (xP x nn k).1 (q+1)=(uF (wL x nn (xP x nn k).1 k y) nn ((wX x.zG).getD k []) y.zM (xP x nn k).1 q).set toN (addS l1 (lateF (wL x nn (xP x nn k).1 k y) wN (wL x nn (xP x nn k).1 k y).length) z.zS) by rw[sendUp_step HGZ.out,htoN,Int.toNat_natCast,hl1d,HYL.out.1,HDK.out,List.getD_eq_getElem?_getD (l:=y.zM.map _),hgw]<;>rfl);clear hl1d hwN hwb;generalize z.zW=zt at *;subst htoN;have hto2:(toN:Int)<(x.zG.zC.length:Int):=t1;clear t0 t1
        obtain⟨bW,oW,csW,hAW,hbW,hcsW,hcellW⟩:=HDX.out k _ HDE.out
        subst hAW
        obtain⟨vW,rfl⟩:=T.rd_one hcsW
        have eW:=hcellW 0 vW rfl;rw[Nat.mul_one,Nat.add_zero] at eW
        obtain⟨bQ,oQ,cQ,rfl,hcQ,hmQ,hbQ,hxQ⟩:=xO (T.yT.1 hcsW) (by rw[List.length_map];omega)
        simp only[List.length_map] at eW hmQ hcQ
        have eQ:=hxQ q _ hgw;clear hxQ hcsW hcellW hgw
        have HEW:=hide ((HMq.out.bel.cell hbW).trans eW);have HEQ:=hide ((HMq.out.bel.cell hbQ).trans eQ);clear eW eQ
        have HAZ:=hide (show Below wr.heap.size wr (wr.alloc (.cells #[.int .i64 (toN:Int),.int .i64 z.zS] 98)) from(Below.refl _ _).alloc (Nat.le_refl _) _)
        have HZz:=hide (Bk.born wr 98 #[.int .i64 (toN:Int),.int .i64 z.zS]);have HMz:=hide (HMq.out.below HAZ.out)
        obtain⟨vrj,hcj,hrj,-,-⟩:=HMz.out.cel.each _ _ hl1
        have HRj:=hide hrj;have HCj:=hide ((HMz.out.cel.bk.cell toN).trans hcj);clear hrj hcj
        have HL1:=hide hl1;have HL1s:=hide hl1s;clear hl1 hl1s
        have HEWz:=hide ((HAZ.out.cell (World.block_lt_of_cell? _ _ HEW.out)).trans HEW.out);have HEQz:=hide ((HAZ.out.cell (World.block_lt_of_cell? _ _ HEQ.out)).trans HEQ.out);have HYz:=hide (wO HYq.out HAZ.out);have HTz:=hide (HTq.out.trans (Trn.of_below HAZ.out))
        clear kn ln ka la;have kz:=HZz.out.cell;have lz:=HZz.out.lt
        go_wp2
        have HAZs:=hide HAZ.out.size
        generalize hWZ:(wr.alloc (.cells #[.int .i64 (toN:Int),.int .i64 z.zS] 98))=WZ at *;clear hWZ
        generalize hB2:wr.heap.size=B2 at *;have HB2q:=hide hB2;clear hB2 kz lz s0 s1
        have HDz:=hide ((Below.refl WZ.heap.size WZ).drew)
        have HKZ:=hide (fun(w':World) (hw:Below WZ.heap.size WZ w')=>(⟨(HZz.out.below hw HZz.out.lt).cell,(hw.cell (World.block_lt_of_cell? _ _ HCj.out)).trans HCj.out,(hw.cell (World.block_lt_of_cell? _ _ HEWz.out)).trans HEWz.out,(hw.cell (World.block_lt_of_cell? _ _ HEQz.out)).trans HEQz.out⟩:(∀ i,w'.cell? ⟨B2,i,none⟩= #[.int .i64 (toN:Int),.int .i64 z.zS][i]?)∧w'.cell? ⟨w4.heap.size,toN,none⟩=some vrj∧w'.cell? ⟨bW,oW+k,none⟩=some (.slice (some ⟨bQ,oQ,none⟩) y.zM.length cQ)∧w'.cell? ⟨bQ,oQ+q,none⟩=some (.int .i64 (wN:Int))))
        refine wK (fun w'=>(∀ i,w'.cell? ⟨B2,i,none⟩= #[.int .i64 (toN:Int),.int .i64 z.zS][i]?)∧w'.cell? ⟨w4.heap.size,toN,none⟩=some vrj∧w'.cell? ⟨bW,oW+k,none⟩=some (.slice (some ⟨bQ,oQ,none⟩) y.zM.length cQ)∧w'.cell? ⟨bQ,oQ+q,none⟩=some (.int .i64 (wN:Int))) 21 (by kernel_rfl) ?_ (fun hS0=>?_)
        ·exact HKZ.out _ HDz.out
        generalize hwdz:WZ.drew=wz at *;clear hwdz
        refine tE 0 hS0 ?_
        refine tE 1 hS0 ?_
        refine tE 2 hS0 ?_
        refine tE 3 hS0 ?_
        refine tE 4 hS0 ?_
        refine tE 5 hS0 ?_
        refine tE 6 hS0 ?_
        refine tE 7 hS0 ?_
        refine tE 8 hS0 ?_
        refine tE 9 hS0 ?_
        refine tE 10 hS0 ?_
        refine tE 11 hS0 ?_
        refine tE 12 hS0 ?_
        refine tE 13 hS0 ?_
        refine tE 14 hS0 ?_
        refine tE 15 hS0 ?_
        refine tE 16 hS0 ?_
        refine tE 17 hS0 ?_
        refine oE 18 (fun K hK=>?_)
        go_simp
        go_wp2_with (go_at_call 196;refine(c_delayed _ (wL x nn (xP x nn k).1 k y) wN _ (RdI.below (OwI.rd HYz.out) HDz.out) (by rw[HYL.out.1];omega) (by omega)).mono ?_;rintro e w9 ⟨v9,rfl,ho,hb⟩)
        have HY9:=hide (OwI.rd ho);have HD9:=hide (yJ HDz.out HDz.out.size hb);clear ho hb
        refine uE hK ?_ (fun hS1=>?_)
        ·exact HKZ.out _ HD9.out
        clear hK K hS0
        refine oE 19 (fun K hK=>?_)
        go_simp
        go_wp2_with (go_at_call 195;refine(c_addTimes _ _ l1 _ z.zS _ (RdI.below HRj.out HD9.out) HY9.out HL1s.out (smp_lateF HYL.out.2) HGNS.out (by omega) (by rw[uA,HYL.out.1];omega)).mono ?_;rintro e w10 ⟨v10,rfl,ho,hb⟩)
        have HO10:=hide ho;have HD10:=hide (yJ HD9.out HD9.out.size hb);have hs10:=HD9.out.size;clear ho hb
        refine uE hK ?_ (fun hS2=>?_)
        ·exact HKZ.out _ HD10.out
        clear hK K hS1
        refine tE 20 hS2 ?_
        refine wJ (o:=_) (by kernel_rfl) rfl (by kernel_rfl) ?_
        obtain⟨zA,zl,zc,rfl⟩: ∃ A l c,v10= .slice A l c:=by obtain⟨A,c,e,_⟩:=(OwI.rd HO10.out).open_;exact⟨A,_,c,e⟩
        have HM10:=hide (HMz.out.below HD10.out);have HT10:=hide (HTz.out.trans (Trn.of_below HD10.out));have HAZ_:=hide HD9.out.size;have hz3:=HAZs.out
        have ck:=(HM10.out.cel.bk.cell toN);obtain⟨vq,hq1,-⟩:=HM10.out.cel.each _ _ HL1.out;rw[hq1] at ck;have fr:=HM10.out.cel.bk.free toN;have lc:=HM10.out.cel.bk.lt;clear hq1
        go_wp2
        go_roundw
        case rel=>exact⟨q+1,_,by omega,by go_num,by rw[HSS.out];exact HM10.out.put HL1.out (OwI.rd HO10.out) (fun g hg e=>by have h:=(HO10.out.lt _ e).1;have h2:=HMq.out.alt g hg;have h3:=HAZ_.out;have h4:=HAZs.out;have h5:=HB2q.out;have h6:=HDz.out.size;omega) (fun g hg=>(HO10.out.lt g hg).2),HT10.out.trans (Trn.set_ (g:=w4.heap.size) (by simp) toN (.slice zA zl zc))⟩
        case measure=>simp[intOf];omega
      have HREST:=hide REST22;clear REST22 hK22
      have HDs:=hide ((Below.refl w6.heap.size w6).drew)
      have HKQ:=hide (fun(w':World) (hw:Below w6.heap.size w6 w')=>(⟨(HK6.out.below hw HK6.out.lt).cell,(hw.cell (World.block_lt_of_cell? _ _ HG6.out.1)).trans HG6.out.1,(hw.cell (World.block_lt_of_cell? _ _ HG6.out.2.1)).trans HG6.out.2.1,(hw.cell (World.block_lt_of_cell? _ _ HG6.out.2.2.1)).trans HG6.out.2.2.1,(hw.cell (World.block_lt_of_cell? _ _ HG6.out.2.2.2)).trans HG6.out.2.2.2⟩:(∀ i,w'.cell? ⟨w.heap.size,i,none⟩= #[.int .i64 x.zF,(.slice va1 x.zL.length vc1),(.slice va2 x.zO.length vc2),(.slice va3 x.zQ.length vc3),(.slice (some ⟨bE,oE,none⟩) x.zP.length vc4),(.slice (some ⟨b1,off,none⟩) x.zG.zC.length vc5)][i]?)∧w'.cell? ⟨bE,oE+k * 4,none⟩=some (.int .i64 pe.zJ)∧w'.cell? ⟨bE,oE+k * 4+1,none⟩=some (.slice ea1 pe.zN.length ec1)∧w'.cell? ⟨bE,oE+k * 4+2,none⟩=some (.slice ea2 pe.zB.length ec2)∧w'.cell? ⟨bE,oE+k * 4+3,none⟩=some (.slice ea3 pe.zK.length ec3)))
      clear ka la
      refine wE (fun w'=>(∀ i,w'.cell? ⟨w.heap.size,i,none⟩= #[.int .i64 x.zF,(.slice va1 x.zL.length vc1),(.slice va2 x.zO.length vc2),(.slice va3 x.zQ.length vc3),(.slice (some ⟨bE,oE,none⟩) x.zP.length vc4),(.slice (some ⟨b1,off,none⟩) x.zG.zC.length vc5)][i]?)∧w'.cell? ⟨bE,oE+k * 4,none⟩=some (.int .i64 pe.zJ)∧w'.cell? ⟨bE,oE+k * 4+1,none⟩=some (.slice ea1 pe.zN.length ec1)∧w'.cell? ⟨bE,oE+k * 4+2,none⟩=some (.slice ea2 pe.zB.length ec2)∧w'.cell? ⟨bE,oE+k * 4+3,none⟩=some (.slice ea3 pe.zK.length ec3)) [] (by kernel_rfl) ?_ (fun hS0=>?_)
      ·exact HKQ.out _ HDs.out
      generalize hwd6:w6.drew=we at *;clear hwd6
      refine tN 1 hS0 ?_
      refine tN 2 hS0 ?_
      refine tN 3 hS0 ?_
      refine tN 4 hS0 ?_
      refine tN 5 hS0 ?_
      refine tN 6 hS0 ?_
      refine tN 8 hS0 ?_
      refine wpAnyN_two (i:=0) (j:=7) (o:=_) (o2:=_) (by kernel_rfl) rfl rfl (fun K hK=>?_) (fun K hK=>?_)
      ·
       go_simp
       go_wp2_with (go_at_call 193;refine(c_zeros0' 0 _ rfl (by omega)).mono ?_;rintro e w7 ⟨rfl,ho,hb⟩)
       have HZ7:=hide ho;have HD7:=hide (yJ HDs.out HDs.out.size hb);have HE7:=hide hb;clear ho hb
       refine uN hK ?_ (fun hS1=>?_)
       ·exact HKQ.out _ HD7.out
       clear hK K hS0
       have HA8:=hide (show Below w7.heap.size w7 (w7.alloc (.cells #[.slice iA il ic] 26)) from(Below.refl _ _).alloc (Nat.le_refl _) _);have HD8:=hide (yJ HD7.out HD7.out.size HA8.out);have HE8:=hide (yJ HE7.out HE7.out.size HA8.out);have HZ8:=hide (wO HZ7.out HA8.out);have HB8:=hide (Bk.born w7 26 #[.slice iA il ic])
       refine oN 7 (fun K hK=>?_)
       go_simp
       refine uN hK ?_ (fun hS2=>?_)
       ·exact HKQ.out _ HD8.out
       clear hK K hS1
       refine oN 9 (fun K hK=>?_)
       go_simp
       go_wp2_with (go_at_call 197;refine(c_render pe _ l0 _ nn _ HPO.out HPI.out HPU.out HL0s.out (by omega) (T.rds_below HP6.out HD8.out) (rd_row1 HB8.out (RdI.below HR6.out HD8.out))).mono ?_;rintro e w9 ⟨vR,rfl,hr,hb⟩)
       have HR9:=hide hr;have HE9:=hide (yJ HE8.out HE8.out.size hb);have HD9:=hide (yJ HD8.out HD8.out.size hb);have HZ9:=hide (wO HZ8.out hb);clear hr hb
       refine uN hK ?_ (fun hS3=>?_)
       ·exact HKQ.out _ HD9.out
       clear hK K hS2
       obtain⟨RA,rcap,rfl,-,-,rx⟩:=T.yN (xs:= [rowF pe l0 nn]) HR9.out
       obtain⟨bR,oR,csR,hAR,hbR,hcsR,hcellR⟩:=rx 0 _ rfl
       subst hAR
       obtain⟨vR,rfl⟩:=T.rd_one hcsR
       have eR:=hcellR 0 vR rfl;simp only[Nat.zero_mul,Nat.add_zero] at eR
       have HRR:=hide (T.yT.1 hcsR);clear hcsR hcellR rx
       refine oN 10 (fun K hK=>?_)
       go_simp
       refine uN hK ?_ (fun hS4=>?_)
       ·exact HKQ.out _ HD9.out
       clear hK K hS3
       refine oN 11 (fun K hK=>?_)
       go_simp
       refine uN hK ?_ (fun hS5=>?_)
       ·exact HKQ.out _ HD9.out
       clear hK K hS4
       refine oN 12 (fun K hK=>?_)
       refine vQ rfl _ _ rfl rfl HZ9.out (ys:=rowF pe l0 nn) rfl HRR.out (by rw[uV,List.length_replicate];omega) HE9.out.size ?_;intro v10 w10 ho hg hv
       have HO10:=hide ho
       have HD10:=hide (yJ HDs.out HDs.out.size (wW (show Below we.heap.size we w9 from HE9.out) HZ9.out hg (Nat.le_refl _) HE9.out.size));clear ho hg hv
       refine uN hK ?_ (fun hS6=>?_)
       ·exact HKQ.out _ HD10.out
       clear hK K hS5
       refine oN 13 (fun K hK=>?_)
       go_simp
       refine uN hK ?_ (fun hS7=>?_)
       ·exact HKQ.out _ HD10.out
       clear hK K hS6
       refine xY (by kernel_rfl) ?_
       clear hS7
       exact HREST.out _ _ _ _ _ _ _ _ _ _ _ _ _ _ _ _ _ _ _ _ _ _ _ _ _ _ _ _ _ _ _ _ _ _ _ _ _ _ _ _ _ _ _ _ _ _ _ _ _ _ _ _ _ _ _ _ _ _ _ _ _ _ _ _ _ _ _ _ _ _ _ _ _ _ _ _ _ _ _ _ _ (HM6.out.below HD10.out) (OwI.rd HO10.out) (HN6.out.below HD10.out HN6.out.lt)
      have hszA:(we.alloc (.cells #[.slice iA il ic] 26)).heap.size=we.heap.size+1:=by simp
      have HA7:=hide (show Below we.heap.size we (we.alloc (.cells #[.slice iA il ic] 26)) from(Below.refl _ _).alloc (Nat.le_refl _) _);have HD7:=hide (yJ HDs.out HDs.out.size HA7.out);have HB7:=hide (Bk.born we 26 #[.slice iA il ic])
      go_simp
      refine uN hK ?_ (fun hS1=>?_)
      ·exact HKQ.out _ HD7.out
      clear hK K hS0
      refine oN 0 (fun K hK=>?_)
      go_simp
      go_wp2_with (go_at_call 193;refine(c_zeros0' 0 _ rfl (by omega)).mono ?_;rintro e w8 ⟨rfl,ho,hb⟩)
      have hz8:=OwI.more ho HA7.out.size;rw[hszA] at hz8;have HZ8:=hide hz8;have HD8:=hide (yJ HD7.out HD7.out.size hb);have HE8:=hide (yJ HA7.out HA7.out.size hb);have HB8:=hide (HB7.out.below hb HB7.out.lt);clear ho hb
      refine uN hK ?_ (fun hS2=>?_)
      ·exact HKQ.out _ HD8.out
      clear hK K hS1
      refine oN 9 (fun K hK=>?_)
      go_simp
      go_wp2_with (go_at_call 197;refine(c_render pe _ l0 _ nn _ HPO.out HPI.out HPU.out HL0s.out (by omega) (T.rds_below HP6.out HD8.out) (rd_row1 HB8.out (RdI.below HR6.out HD8.out))).mono ?_;rintro e w9 ⟨vR,rfl,hr,hb⟩)
      have HR9:=hide hr;have HE9:=hide (yJ HE8.out HE8.out.size hb);have HD9:=hide (yJ HD8.out HD8.out.size hb);have HZ9:=hide (wO HZ8.out hb);clear hr hb
      refine uN hK ?_ (fun hS3=>?_)
      ·exact HKQ.out _ HD9.out
      clear hK K hS2
      obtain⟨RA,rcap,rfl,-,-,rx⟩:=T.yN (xs:= [rowF pe l0 nn]) HR9.out
      obtain⟨bR,oR,csR,hAR,hbR,hcsR,hcellR⟩:=rx 0 _ rfl
      subst hAR
      obtain⟨vR,rfl⟩:=T.rd_one hcsR
      have eR:=hcellR 0 vR rfl;simp only[Nat.zero_mul,Nat.add_zero] at eR
      have HRR:=hide (T.yT.1 hcsR);clear hcsR hcellR rx
      refine oN 10 (fun K hK=>?_)
      go_simp
      refine uN hK ?_ (fun hS4=>?_)
      ·exact HKQ.out _ HD9.out
      clear hK K hS3
      refine oN 11 (fun K hK=>?_)
      go_simp
      refine uN hK ?_ (fun hS5=>?_)
      ·exact HKQ.out _ HD9.out
      clear hK K hS4
      refine oN 12 (fun K hK=>?_)
      refine vQ rfl _ _ rfl rfl HZ9.out (ys:=rowF pe l0 nn) rfl HRR.out (by rw[uV,List.length_replicate];omega) HE9.out.size ?_;intro v10 w10 ho hg hv
      have HO10:=hide ho
      have HD10:=hide (yJ HDs.out HDs.out.size (wW (show Below we.heap.size we w9 from HE9.out) HZ9.out hg (Nat.le_refl _) HE9.out.size));clear ho hg hv
      refine uN hK ?_ (fun hS6=>?_)
      ·exact HKQ.out _ HD10.out
      clear hK K hS5
      refine oN 13 (fun K hK=>?_)
      go_simp
      refine uN hK ?_ (fun hS7=>?_)
      ·exact HKQ.out _ HD10.out
      clear hK K hS6
      refine xY (by kernel_rfl) ?_
      clear hS7
      exact HREST.out _ _ _ _ _ _ _ _ _ _ _ _ _ _ _ _ _ _ _ _ _ _ _ _ _ _ _ _ _ _ _ _ _ _ _ _ _ _ _ _ _ _ _ _ _ _ _ _ _ _ _ _ _ _ _ _ _ _ _ _ _ _ _ _ _ _ _ _ _ _ _ _ _ _ _ _ _ _ _ _ _ (HM6.out.below HD10.out) (OwI.rd HO10.out) (HN6.out.below HD10.out HN6.out.lt)
    -- a round of the tracks
    have hgk:=gE hlt
    obtain⟨b1,off,cs1,hA,hb1,hcs,hcell⟩:=HX2.out k x.zO[k] hgk
    subst hA
    generalize x.zO[k]=y at *
    have HG:=hide hgk;clear hgk
    obtain⟨u0,rfl,hRY0⟩:=xI.yO (show T.rds _ _ _ by simpa only[xI.t,T.rd] using hcs)
    have d0:=(HB.out.cell hb1).trans (hcell 0 (u0) rfl)
    rw[show off+(k * 1+0)=off+k by omega] at d0
    have RY0:=hide (T.yF hRY0 HB.out);clear hRY0
    clear hcs hcell
    obtain⟨ua0,uc0,rfl,ul0,um0,ux0⟩:=T.yN RY0.out;clear ux0
    have hq1:b1<wr.heap.size:=lL hb1 HB.out.size
    have hlf:k<x.zQ.length:=by have:=HFL.out;omega
    have hgf:=gE hlf
    obtain⟨bF,oF,hAF,hbF,hcF⟩:=HX3.out k _ hgf
    have hfd:=HSO.out.feeds k _ hgf
    subst hAF
    generalize x.zQ[k]=fd at *
    have HFD:=hide hgf;have cF:=(HB.out.cell hbF).trans hcF;have lF:bF<wr.heap.size:=lL hbF HB.out.size;clear hgf hcF
    have HTO:=hide (HSO.out.tracks k y HG.out)
    obtain⟨fN,hfN⟩: ∃ q:Nat,fd=(q:Int):=⟨fd.toNat,by omega⟩
    subst hfN
    have hfm:fN<x.zG.zC.length:=by omega
    have HRX:=hide (show Below wr.heap.size wr (wr.alloc (.cells #[(.slice ua0 y.zR.length uc0)] 96)) from(Below.refl _ _).alloc (Nat.le_refl _) _)
    have HNX:=hide (Bk.born wr 96 #[(.slice ua0 y.zR.length uc0)]);have HMX:=hide (HMk.out.below HRX.out);have HKX:=hide (HKk.out.below HRX.out HKk.out.lt)
    have kn:=HNX.out.cell;have ln:=HNX.out.lt;clear ka la;have ka:=HKX.out.cell;have la:=HKX.out.lt;have lFX:bF<(wr.alloc (.cells #[(.slice ua0 y.zR.length uc0)] 96)).heap.size:=lL lF HRX.out.size;have cFX:=(HRX.out.cell lF).trans cF
    have hkf:(k:Int)<(x.zQ.length:Int):=by have:=HFL.out;omega
    go_wp2
    generalize hWX:(wr.alloc (.cells #[(.slice ua0 y.zR.length uc0)] 96))=WX at *;clear hWX;generalize hB1:wr.heap.size=B1 at *;have HB1q:=hide hB1;clear hB1
    clear kn ln ka la cF lF lFX cFX
    have HDr:=hide ((Below.refl WX.heap.size WX).drew);have HKP:=hide (fun(w':World) (hw:Below WX.heap.size WX w')=>(⟨(HKX.out.below hw HKX.out.lt).cell,(HNX.out.below hw HNX.out.lt).cell⟩:(∀ i,w'.cell? ⟨w.heap.size,i,none⟩= #[.int .i64 x.zF,(.slice va1 x.zL.length vc1),(.slice (some ⟨b1,off,none⟩) x.zO.length vc2),(.slice (some ⟨bF,oF,none⟩) x.zQ.length vc3),(.slice va4 x.zP.length vc4),(.slice va5 x.zG.zC.length vc5)][i]?)∧(∀ i,w'.cell? ⟨B1,i,none⟩= #[(.slice ua0 y.zR.length uc0)][i]?)))
    have HBX:=hide (show Below w.heap.size w WX from yJ HB.out HB.out.size (by rw[HB1q.out];exact HRX.out))
    refine wE (fun w'=>(∀ i,w'.cell? ⟨w.heap.size,i,none⟩= #[.int .i64 x.zF,(.slice va1 x.zL.length vc1),(.slice (some ⟨b1,off,none⟩) x.zO.length vc2),(.slice (some ⟨bF,oF,none⟩) x.zQ.length vc3),(.slice va4 x.zP.length vc4),(.slice va5 x.zG.zC.length vc5)][i]?)∧(∀ i,w'.cell? ⟨B1,i,none⟩= #[(.slice ua0 y.zR.length uc0)][i]?)) [] (by kernel_rfl) ?_ (fun hS0=>?_)
    ·exact HKP.out _ HDr.out
    generalize hwd:WX.drew=wd at *;clear hwd
    have HBd:=hide (yJ HBX.out HBX.out.size HDr.out)
    refine tN 0 hS0 ?_
    refine tN 1 hS0 ?_
    refine tN 2 hS0 ?_
    refine tN 3 hS0 ?_
    refine tN 4 hS0 ?_
    refine tN 6 hS0 ?_
    refine tN 7 hS0 ?_
    refine tN 8 hS0 ?_
    refine tN 9 hS0 ?_
    refine oN 5 (fun K hK=>?_)
    go_simp
    go_wp2_with (go_at_call 194;refine(c_renderTrack' y _ x.zL _ lenN _ HLEN.out HTO.out.1 HSRC.out HTO.out.2 (by omega) (T.yF R1.out HBd.out) (T.rds_below (xI.rd_mk RY0.out) (by rw[←HB1q.out] at HRX;exact yJ HRX.out HRX.out.size HDr.out))).mono ?_;rintro e w6 ⟨v6,rfl,ho,hb⟩)
    have HT6:=hide ho;have HX6:=hide hb;have HD6:=hide (yJ HDr.out HDr.out.size hb);have hB6:=hb.size;clear ho hb
    refine uN hK ?_ (fun hS1=>?_)
    ·exact HKP.out _ HD6.out
    clear hK K hS0
    refine oN 10 (fun K hK=>?_)
    go_simp
    go_wp2_with (go_at_call 193;refine(c_zeros0 (nn - lenN) _ (by omega)).mono ?_;rintro e w7 ⟨rfl,ho,hb⟩)
    have HZ7:=hide (OwI.rd ho);have HX7:=hide (yJ HX6.out HX6.out.size hb);have HT7:=hide (wO HT6.out hb);have HD7:=hide (yJ HD6.out HD6.out.size hb);have hB7:wd.heap.size≤w7.heap.size:=Nat.le_trans hB6 hb.size;clear ho hb
    refine uN hK ?_ (fun hS2=>?_)
    ·exact HKP.out _ HD7.out
    clear hK K hS1
    have htl:(uS x.zL y lenN).length=lenN:=uT _
    refine oN 11 (fun K hK=>?_)
    refine vQ rfl _ _ rfl rfl HT7.out (ys:=List.replicate (nn - lenN) 0) rfl HZ7.out (by rw[htl,List.length_replicate];omega) hB7 ?_;intro v8 w8 ho hg hv
    have HS8:=hide ho;have HE8:=hide (wW HX7.out HT7.out hg (Nat.le_refl _) hB7)
    have HD8:=hide (yJ HDr.out HDr.out.size HE8.out);clear ho hg hv
    refine uN hK ?_ (fun hS3=>?_)
    ·exact HKP.out _ HD8.out
    clear hK K hS2
    refine oN 12 (fun K hK=>?_)
    go_simp
    refine uN hK ?_ (fun hS4=>?_)
    ·exact HKP.out _ HD8.out
    clear hK K hS3
    refine xY (by kernel_rfl) ?_
    clear hS4
    have HSG:=hide (show OwI 2 w8 wd.heap.size v8 (uS x.zL y lenN++List.replicate (nn - lenN) 0) from HS8.out)
    have hsgl:(uS x.zL y lenN++List.replicate (nn - lenN) 0).length=nn:=by rw[List.length_append,htl,List.length_replicate];omega
    have HSGS:=hide (show ∀ q ∈ (uS x.zL y lenN++List.replicate (nn - lenN) 0),Smp q from fun q hq=>by rcases List.mem_append.1 hq with h|h<;>first|exact smp_trackUp _ q h|exact smp_zeros q h)
    obtain⟨l0,hl0,hl0d,hl0n,hl0s⟩:=(feedUp_ok HSO.out nn k).get hfm
    obtain⟨tf,gtf,dtf,tf0,tf1⟩:=HENT.out fN hfm
    obtain⟨tn,htn⟩: ∃ q:Nat,tf=(q:Int):=⟨tf.toNat,by omega⟩
    subst htn
    have HFS:=hide (show feedUp x nn (k+1)=(feedUp x nn k).set fN (addS l0 (lateF (uS x.zL y lenN++List.replicate (nn - lenN) 0) tn (uS x.zL y lenN++List.replicate (nn - lenN) 0).length) 1) by rw[feedUp_step HG.out HFD.out,hsgl,late_zeros,Int.toNat_natCast,hl0d,dtf,Int.toNat_natCast,HLEN.out,Int.toNat_natCast]);clear hl0d dtf
    generalize uS x.zL y lenN++List.replicate (nn - lenN) 0=sg at *
    have HM8:=hide (HMX.out.below HD8.out)
    obtain⟨vri,hci,hri,-,-⟩:=HM8.out.cel.each _ _ hl0
    have HRi:=hide hri;have HCi:=hide ((HM8.out.cel.bk.cell fN).trans hci);clear hri hci
    have HTF:=hide ((HM8.out.bel.cell hbT).trans (HTC.out _ _ gtf));clear gtf
    go_wp2
    have HDs:=hide ((Below.refl w8.heap.size w8).drew)
    have HW8:=hide (And.intro HCi.out HTF.out)
    have HKQ:=hide (fun(w':World) (hw:Below w8.heap.size w8 w')=>(⟨(hw.cell (World.block_lt_of_cell? _ _ HW8.out.1)).trans HW8.out.1,(hw.cell (World.block_lt_of_cell? _ _ HW8.out.2)).trans HW8.out.2⟩:w'.cell? ⟨w4.heap.size,fN,none⟩=some vri∧w'.cell? ⟨bT,oT+fN,none⟩=some (.int .i64 (tn:Int))))
    refine wK (fun w'=>w'.cell? ⟨w4.heap.size,fN,none⟩=some vri∧w'.cell? ⟨bT,oT+fN,none⟩=some (.int .i64 (tn:Int))) 14 (by kernel_rfl) ?_ (fun hS0=>?_)
    ·exact HKQ.out _ HDs.out
    generalize hwd2:w8.drew=we at *;clear hwd2
    refine tE 0 hS0 ?_
    refine tE 1 hS0 ?_
    refine tE 2 hS0 ?_
    refine tE 3 hS0 ?_
    refine tE 4 hS0 ?_
    refine tE 5 hS0 ?_
    refine tE 6 hS0 ?_
    refine tE 7 hS0 ?_
    refine tE 8 hS0 ?_
    refine tE 9 hS0 ?_
    refine tE 10 hS0 ?_
    refine oE 11 (fun K hK=>?_)
    go_simp
    go_wp2_with (go_at_call 196;refine(c_delayed _ sg tn _ (RdI.below (OwI.rd HSG.out) HDs.out) (by omega) (by omega)).mono ?_;rintro e w9 ⟨v9,rfl,ho,hb⟩)
    have HY9:=hide (OwI.rd ho);have HD9:=hide (yJ HDs.out HDs.out.size hb);clear ho hb
    refine uE hK ?_ (fun hS1=>?_)
    ·exact HKQ.out _ HD9.out
    clear hK K hS0
    refine oE 12 (fun K hK=>?_)
    go_simp
    go_wp2_with (go_at_call 195;refine(c_addTimes _ _ l0 _ 1 _ (RdI.below HRi.out HD9.out) HY9.out hl0s (smp_lateF HSGS.out) ⟨by decide,by decide⟩ (by omega) (by rw[uA];omega)).mono ?_;rintro e w10 ⟨v10,rfl,ho,hb⟩)
    have HO10:=hide ho;have HD10:=hide (yJ HD9.out HD9.out.size hb);have hs10:=HD9.out.size;clear ho hb
    refine uE hK ?_ (fun hS2=>?_)
    ·exact HKQ.out _ HD10.out
    clear hK K hS1
    refine tE 13 hS2 ?_
    refine wJ (o:=_) (by kernel_rfl) rfl (by kernel_rfl) ?_
    obtain⟨zA,zl,zc,rfl⟩: ∃ A l c,v10= .slice A l c:=by obtain⟨A,c,e,_⟩:=(OwI.rd HO10.out).open_;exact⟨A,_,c,e⟩
    have HM10:=hide (HM8.out.below HD10.out)
    have ck:=(HM10.out.cel.bk.cell fN);obtain⟨vq,hq1,-⟩:=HM10.out.cel.each _ _ hl0;rw[hq1] at ck;have fr:=HM10.out.cel.bk.free fN;have lc:=HM10.out.cel.bk.lt;clear hq1
    have hlb8:=HM8.out.cel.bk.lt
    go_wp2
    go_roundw
    case rel=>exact⟨k+1,_,by omega,by go_num,by rw[HFS.out];exact HM10.out.put hl0 (OwI.rd HO10.out) (fun q hq e=>by simp at hq;subst hq;have h:=(HO10.out.lt _ e).1;omega) (fun q hq=>(HO10.out.lt q hq).2)⟩
    case measure=>simp[intOf];omega
  -- a round of the inputs
  have HKk:=hide (HK4.out.below HMk.out.bel HK4.out.lt);have ka:=HKk.out.cell;have la:=HKk.out.lt
  go_wp2_with fail
  refine(c_zeros0 nn _ (by omega)).mono ?_;rintro e w6 ⟨rfl,ho,hb⟩
  have HO6:=hide ho;have HM6:=hide (HMk.out.below hb);have hlb:=HMk.out.cel.bk.lt;clear ho hb ka la
  obtain⟨-,hi0,hst⟩:=insUp_step (Z:=(List.replicate nn 0)) hlt
  have ck:=(HM6.out.cel.bk.cell k);obtain⟨vq,hq1,-⟩:=HM6.out.cel.each _ _ hi0;rw[hq1] at ck;have fr:=HM6.out.cel.bk.free k;have lc:=HM6.out.cel.bk.lt;clear hq1
  go_wp2
  go_roundw
  case rel=>exact⟨k+1,_,by omega,by go_num,by rw[←hst];exact HM6.out.put hi0 (OwI.rd HO6.out) (fun q hq e=>by simp at hq;subst hq;have h:=(HO6.out.lt _ e).1;omega) (fun q hq=>(HO6.out.lt q hq).2)⟩
  case measure=>simp[intOf];omega
end Go.Proofs.YtoibekfhepnedaaGreat
