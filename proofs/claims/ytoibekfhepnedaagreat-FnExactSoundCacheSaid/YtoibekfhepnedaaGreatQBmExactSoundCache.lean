/- Contracts: the signal of a track, by the reference. -/
import Derived.Test.YtoibekfhepnedaaGreatQBgExactSoundCache
import Derived.Test.YtoibekfhepnedaaGreatQAmExactSoundCache
import Derived.Test.YtoibekfhepnedaaGreatQBbExactSoundCache
set_option linter.unusedVariables false
set_option linter.unusedSimpArgs false
set_option maxHeartbeats 8000000
set_option maxRecDepth 100000
namespace Go.Proofs.YtoibekfhepnedaaGreat
open Go.RowKit
theorem c_l23Sources (v:Value) (xs:List (List Int)) (w:World) (hS:SourcesOk xs) (hr:T.rd w (T.sl 26 1 (xs.map (T.ints 2))) [v]):Calls Tryz.prog 236 #[v] w fun e w'=>e= .returned (.bool true)∧w=w':=by
 obtain⟨A,cap,rfl,hl,hc,hx⟩:=T.yM hr
 have HX:=hide hx;have HS:=hide hS.each;have h6:=hS.few;clear hx hr hS
 go_enter Tryz.func236,Tryz.ntmps236
 go_wp2
 go_loop [3] (fun i=> ∃ k:Nat,k≤xs.length∧i= .int .i64 k) (fun i=>xs.length - (intOf i).toNat)
 case atStart=>exact⟨0,Nat.zero_le _,rfl⟩
 case round=>
  obtain⟨k,hk,rfl⟩:=hrel
  by_cases hlt:k<xs.length
  ·have hgk:=List.getElem?_eq_getElem hlt
   obtain⟨b,off,cs,rfl,hb,hcs,hcell⟩:=HX.out k xs[k] hgk
   have hq:=HS.out k _ hgk
   generalize xs[k]=l at *
   clear hgk
   obtain⟨v3,rfl⟩:=T.rd_one hcs
   have d0:=hcell 0 v3 rfl
   rw[Nat.mul_one,Nat.add_zero] at d0
   have R:=hide (T.yR.1 hcs);clear hcs hcell
   obtain⟨A3,c3,rfl,l3,m3,x3⟩:=R.out.open_
   clear x3
   have HQ:=hide hq;clear hq
   go_wp2_with (go_at_call 123;refine(c_l03Ok _ l _ R.out).mono ?_;rintro e w' ⟨rfl,rfl⟩;rw[HQ.out])
   go_round
   case rel=>exact⟨k+1,by omega,by go_num⟩
   case measure=>simp[intOf];omega
  ·obtain rfl:k=xs.length:=by omega
   go_wp2
   go_ret
   exact⟨yH (decide_eq_true (by omega)),rfl⟩
theorem c_l23Render (x:GTrack) (b o:Nat) (sources:List (List Int)) (sv:Value) (n:Nat) (w:World) (hT:TrackOk x) (hS:SourcesOk sources) (hc:Each x.zQ fun _ c=>c.zT<(sources.length:Int)) (hn:n≤4000) (hr_:T.rd w (T.sl 26 1 (sources.map (T.ints 2))) [sv]) (h:T.at w x.fs b o):Calls Tryz.prog 237 #[sv,.pointer (some ⟨b,o,none⟩),.int .i64 (n:Int)] w fun e w'=> ∃ v,e= .returned v∧OwI 2 w' w.heap.size v (trackF sources x n)∧Below w.heap.size w w':=by
 have HAT:=hide h
 obtain⟨hlt0,cs,hr,hc⟩:=h
 obtain⟨v0,rfl,h0⟩:=GTrack.yN hr
 clear hr
 have R0:=hide h0;obtain⟨va0,vc0,rfl,vl0,vm0,vx0⟩:=T.yM h0
 have HX0:=hide vx0;clear vx0 h0
 have HL:=hide hlt0;have HCC:=hide hc;have HB0:=hide (Below.refl w.heap.size w);clear hlt0 hc
 have HTO:=hide hT;have HSO:=hide hS;have HCS:=hide hc;clear hT hS hc
 obtain⟨SA,sc,rfl,sl_,sm,sx⟩:=T.yM hr_
 have HSX:=hide sx;clear sx hr_
 have HALL:=hide (show trackUp sources x.zQ n x.zQ.length=trackF sources x n from rfl)
 have p0:w.cell? ⟨b,o,none⟩=some (.slice va0 x.zQ.length vc0):=(HB0.out.cell HL.out).trans (HCC.out 0 _ rfl)
 have lb:b<w.heap.size:=Nat.lt_of_lt_of_le HL.out HB0.out.size
 go_enter Tryz.func237,Tryz.ntmps237
 go_wp2_with fail
 refine(c_l03Zeros0 n _ (by omega)).mono ?_;rintro e w1 ⟨v1,rfl,ho,hd⟩
 have HO1:=hide (show OwI 2 w1 w.heap.size v1 (trackUp sources x.zQ n 0) from ho);have HB1:=hide hd;clear ho hd p0 lb
 have p0:w1.cell? ⟨b,o,none⟩=some (.slice va0 x.zQ.length vc0):=(HB1.out.cell HL.out).trans (HCC.out 0 _ rfl)
 have lb:b<w1.heap.size:=Nat.lt_of_lt_of_le HL.out HB1.out.size
 go_wp2
 go_loopw [8] (fun i wr=> ∃ k:Nat,k≤x.zQ.length∧i= .int .i64 (k:Int)∧OwI 2 wr w.heap.size v1 (trackUp sources x.zQ n k)∧Below w.heap.size w wr) (fun i _=>x.zQ.length - (intOf i).toNat)
 case atStart=>exact⟨0,Nat.zero_le _,rfl,HO1.out,HB1.out⟩
 case round=>
  obtain⟨k,hk,rfl,ho,hbw⟩:=hrel
  have HO:=hide ho;have HB:=hide hbw;clear ho hbw p0 lb
  have p0:wr.cell? ⟨b,o,none⟩=some (.slice va0 x.zQ.length vc0):=(HB.out.cell HL.out).trans (HCC.out 0 _ rfl)
  have lb:b<wr.heap.size:=Nat.lt_of_lt_of_le HL.out HB.out.size
  by_cases hlt:k<x.zQ.length
  rotate_left
  ·
   obtain rfl:k=x.zQ.length:=by omega
   go_wp2
   go_ret
   exact⟨_,rfl,by rw[←HALL.out];exact HO.out,HB.out⟩
  have hgk:=List.getElem?_eq_getElem hlt
  obtain⟨b1,off,csy,hA,hb1,hcs,hcell⟩:=HX0.out k x.zQ[k] hgk
  subst hA
  generalize x.zQ[k]=y at *
  have HG:=hide hgk;clear hgk
  have HAy:=hide (T.at_elem (o:=off+k * 5) hb1 (show T.rds w y.fs csy by simpa only[GClip.t,T.rd] using hcs) hcell (by omega));clear hcs hcell
  clear p0 lb
  have p0:wr.cell? ⟨b,o,none⟩=some (.slice (some ⟨b1,off,none⟩) x.zQ.length vc0):=(HB.out.cell HL.out).trans (HCC.out 0 _ rfl)
  have lb:b<wr.heap.size:=Nat.lt_of_lt_of_le HL.out HB.out.size
  obtain⟨lty,csy',hry,hcy⟩:=HAy.out
  obtain rfl:=GClip.yN hry
  have HCy:=hide hcy;clear hry hcy
  have cy0:wr.cell? ⟨b1,off+k * 5,none⟩=some (.int .i64 y.zT):=(HB.out.cell lty).trans (HCy.out 0 _ rfl)
  have cy1:wr.cell? ⟨b1,off+k * 5+1,none⟩=some (.int .i64 y.zH):=(HB.out.cell lty).trans (HCy.out 1 _ rfl)
  have cy2:wr.cell? ⟨b1,off+k * 5+2,none⟩=some (.int .i64 y.zG):=(HB.out.cell lty).trans (HCy.out 2 _ rfl)
  have cy3:wr.cell? ⟨b1,off+k * 5+3,none⟩=some (.int .i64 y.zX):=(HB.out.cell lty).trans (HCy.out 3 _ rfl)
  have cy4:wr.cell? ⟨b1,off+k * 5+4,none⟩=some (.int .i64 y.zR):=(HB.out.cell lty).trans (HCy.out 4 _ rfl)
  have lb1:b1<wr.heap.size:=Nat.lt_of_lt_of_le hb1 HB.out.size
  have hok:=(HTO.out.clips k y HG.out).1;have hso:=HCS.out k y HG.out
  have i1:=yZ.1 hok.source;have i2:=yZ.1 hok.length;have i3:=yZ.1 hok.from_;have i4:=yZ.1 hok.at_;have HGN:=hide hok.gain;clear hok
  have hsj:y.zT.toNat<sources.length:=by omega
  have hgs:=List.getElem?_eq_getElem hsj
  obtain⟨b5,o5,c5,rfl,hb5,hcs5,hcell5⟩:=HSX.out _ _ hgs
  have HSM:=hide (src_smp HSO.out hgs);have HSD:=hide (show sources.getD y.zT.toNat []=sources[y.zT.toNat] by rw[List.getD_eq_getElem?_getD,hgs];rfl)
  generalize sources[y.zT.toNat]=src at *
  obtain⟨v5,rfl⟩:=T.rd_one hcs5
  have e0:=hcell5 0 v5 rfl
  rw[Nat.mul_one,Nat.add_zero] at e0
  have RS:=hide (T.yR.1 hcs5);clear hcs5 hcell5 hgs
  obtain⟨A5,c5,rfl,l5,m5,x5⟩:=RS.out.open_;clear x5
  have HE0:=hide e0;clear e0
  have HUk:=hide (show trackUp sources x.zQ n (k+1)=clipUp y src (trackUp sources x.zQ n k) (clipN y n) by show (match x.zQ[k]? with|some c=>_|none=>_)=_;rw[HG.out,←HSD.out])
  have hcn:clipN y n=min y.zG.toNat (n - y.zX.toNat):=rfl
  have HOX:=hide (show OwI 2 wr w.heap.size v1 (clipUp y src (trackUp sources x.zQ n k) 0) from HO.out)
  go_wp2
  go_loopw [10] (fun i wr=> ∃ q:Nat,q≤clipN y n∧i= .int .i64 (q:Int)∧OwI 2 wr w.heap.size v1 (clipUp y src (trackUp sources x.zQ n k) q)∧Below w.heap.size w wr) (fun i _=>clipN y n - (intOf i).toNat)
  case atStart=>exact⟨0,Nat.zero_le _,rfl,HOX.out,HB.out⟩
  case round=>
   obtain⟨q,hq,rfl,ho,hbw⟩:=hrel
   have HOi:=hide ho;have HBi:=hide hbw;clear ho hbw p0 lb cy0 cy1 cy2 cy3 cy4
   have p0:wr.cell? ⟨b,o,none⟩=some (.slice (some ⟨b1,off,none⟩) x.zQ.length vc0):=(HBi.out.cell HL.out).trans (HCC.out 0 _ rfl)
   have lb:b<wr.heap.size:=Nat.lt_of_lt_of_le HL.out HBi.out.size
   have cy0:wr.cell? ⟨b1,off+k * 5,none⟩=some (.int .i64 y.zT):=(HBi.out.cell lty).trans (HCy.out 0 _ rfl)
   have cy1:wr.cell? ⟨b1,off+k * 5+1,none⟩=some (.int .i64 y.zH):=(HBi.out.cell lty).trans (HCy.out 1 _ rfl)
   have cy2:wr.cell? ⟨b1,off+k * 5+2,none⟩=some (.int .i64 y.zG):=(HBi.out.cell lty).trans (HCy.out 2 _ rfl)
   have cy3:wr.cell? ⟨b1,off+k * 5+3,none⟩=some (.int .i64 y.zX):=(HBi.out.cell lty).trans (HCy.out 3 _ rfl)
   have cy4:wr.cell? ⟨b1,off+k * 5+4,none⟩=some (.int .i64 y.zR):=(HBi.out.cell lty).trans (HCy.out 4 _ rfl)
   have lb1':b1<wr.heap.size:=Nat.lt_of_lt_of_le hb1 HBi.out.size
   have hwA:IntKind.i64.wrap (y.zX+(q:Int))=y.zX+(q:Int):=IntWalk.i64_in _ (by omega)
   by_cases hlq:q<clipN y n
   rotate_left
   ·
    obtain rfl:q=clipN y n:=by omega
    have HREL:=hide (show OwI 2 wr w.heap.size v1 (trackUp sources x.zQ n (k+1)) by rw[HUk.out];exact HOi.out)
    generalize hcq:clipN y n=cq at *
    by_cases hlen:(cq:Int)<y.zG
    ·
     have hno: ¬ (y.zX+(cq:Int)<(n:Int)):=by omega
     go_wp2
     go_roundw
     case rel=>exact⟨k+1,by omega,by go_num,HREL.out,HBi.out⟩
     case measure=>simp[intOf];omega
    ·
     go_wp2
     go_roundw
     case rel=>exact⟨k+1,by omega,by go_num,HREL.out,HBi.out⟩
     case measure=>simp[intOf];omega
   have hl1:(q:Int)<y.zG:=by omega
   have hl2:y.zX+(q:Int)<(n:Int):=by omega
   obtain⟨j,hj⟩: ∃ j:Nat,y.zX+(q:Int)=(j:Int):=⟨(y.zX+(q:Int)).toNat,by omega⟩
   have hjA:y.zX.toNat+q=j:=by omega
   have hjn:(j:Int)<(n:Int):=by omega
   have hwj:IntKind.i64.wrap (j:Int)=(j:Int):=IntWalk.i64_in _ (by omega)
   have HCU:=hide (show clipUp y src (trackUp sources x.zQ n k) (q+1)=(clipUp y src (trackUp sources x.zQ n k) q).set j (wrp ((clipUp y src (trackUp sources x.zQ n k) q).getD j 0+y.zR * smpAt src (y.zH+(q:Int)))) by rw[←hjA];rfl)
   have hRl:(clipUp y src (trackUp sources x.zQ n k) q).length=n:=by rw[length_clipUp,length_trackUp]
   have HRS:=hide (smp_clipUp (c:=y) (src:=src) (smp_trackUp (ss:=sources) (l:=x.zQ) (n:=n) k) q)
   generalize hR:clipUp y src (trackUp sources x.zQ n k) q=R at *
   have hjl:j<R.length:=by omega
   obtain⟨g,cp,rfl,hcp,hgg,hgw⟩:=OwI.form HOi.out (by omega)
   rw[hRl] at *
   have hjl2:j<R.length:=by have h:=OwI.sizeN HOi.out;omega
   have HgA:=hide (List.getElem?_eq_getElem hjl2)
   have ht0:=HRS.out (R[j]'hjl2) (List.getElem_mem hjl2)
   have HDA:=hide (show R.getD j 0=(R[j]'hjl2) by rw[List.getD_eq_getElem?_getD,HgA.out];rfl)
   generalize (R[j]'hjl2)=t0 at *
   have hwF:IntKind.i64.wrap (y.zH+(q:Int))=y.zH+(q:Int):=IntWalk.i64_in _ (by omega)
   have hs0:=smpAt_smp HSM.out (y.zH+(q:Int))
   obtain⟨s0,hse⟩: ∃ s0,smpAt src (y.zH+(q:Int))=s0:=⟨_,rfl⟩
   have HAT_:=hide (fun(W:World) (hr:RdI W (.slice A5 src.length c5) src)=>(by have:=c_l03At _ src (y.zH+(q:Int)) W hr;rw[hse] at this;exact this:Calls Tryz.prog 189 #[.slice A5 src.length c5,.int .i64 (y.zH+(q:Int))] W fun e w'=>e= .returned (.int .i64 s0)∧W=w'))
   rw[hse] at hs0 HCU;clear hse
   have HS0:=hide hs0;have HT0:=hide ht0;have HIN:=hide (wrp_inner t0 (y.zR * s0))
   have hsl2:y.zT<(sources.length:Int):=hso
   go_wp2
   have HCA:=hide (HOi.out.cellN HgA.out);have HE5:=hide ((HBi.out.cell hb5).trans HE0.out)
   have HWd:=hide (show wr.drew.cell? ⟨b1,off+k * 5,none⟩=some (.int .i64 y.zT)∧wr.drew.cell? ⟨b1,off+k * 5+1,none⟩=some (.int .i64 y.zH)∧wr.drew.cell? ⟨b1,off+k * 5+3,none⟩=some (.int .i64 y.zX)∧wr.drew.cell? ⟨b1,off+k * 5+4,none⟩=some (.int .i64 y.zR)∧wr.drew.cell? ⟨g,j,none⟩=some (.int .i64 t0)∧wr.drew.cell? ⟨b5,o5+y.zT.toNat,none⟩=some (.slice A5 src.length c5) from⟨cy0,cy1,cy3,cy4,HCA.out,HE5.out⟩)
   have HOd:=hide (show OwI 2 wr.drew w.heap.size (.slice (some ⟨g,0,none⟩) n cp) R from own_all HOi.out (Below.refl wr.heap.size wr).drew);have HBd:=hide HBi.out.drew;have HSd:=hide (show RdI wr.drew (.slice A5 src.length c5) src from RdI.below (RdI.below RS.out HBi.out) (Below.refl wr.heap.size wr).drew)
   clear cy0 cy1 cy2 cy3 cy4 p0 lb
   refine wp_region_E (fun w'=>w'.cell? ⟨b1,off+k * 5,none⟩=some (.int .i64 y.zT)∧w'.cell? ⟨b1,off+k * 5+1,none⟩=some (.int .i64 y.zH)∧w'.cell? ⟨b1,off+k * 5+3,none⟩=some (.int .i64 y.zX)∧w'.cell? ⟨b1,off+k * 5+4,none⟩=some (.int .i64 y.zR)∧w'.cell? ⟨g,j,none⟩=some (.int .i64 t0)∧w'.cell? ⟨b5,o5+y.zT.toNat,none⟩=some (.slice A5 src.length c5)) 37 (by kernel_rfl) ?_ (fun hS0=>?_)
   ·exact HWd.out
   generalize hwd:wr.drew=wd at *;clear hwd
   refine tE 0 hS0 ?_
   refine tE 1 hS0 ?_
   refine tE 2 hS0 ?_
   refine tE 3 hS0 ?_
   refine tE 4 hS0 ?_
   refine tE 5 hS0 ?_
   refine tE 6 hS0 ?_
   refine tE 7 hS0 ?_
   refine tE 8 hS0 ?_
   refine tE 9 hS0 ?_
   refine tE 10 hS0 ?_
   refine tE 11 hS0 ?_
   refine tE 12 hS0 ?_
   refine tE 13 hS0 ?_
   refine tE 14 hS0 ?_
   refine tE 15 hS0 ?_
   refine tE 16 hS0 ?_
   refine tE 17 hS0 ?_
   refine tE 18 hS0 ?_
   refine tE 19 hS0 ?_
   refine tE 20 hS0 ?_
   refine tE 21 hS0 ?_
   refine tE 22 hS0 ?_
   refine tE 23 hS0 ?_
   refine tE 24 hS0 ?_
   refine tE 25 hS0 ?_
   refine tE 26 hS0 ?_
   refine tE 27 hS0 ?_
   refine tE 28 hS0 ?_
   refine tE 29 hS0 ?_
   refine tE 30 hS0 ?_
   refine tE 31 hS0 ?_
   refine tE 32 hS0 ?_
   refine wpAnyE_one (i:=33) (o:=_) (by kernel_rfl) rfl (fun K hK=>?_)
   go_simp
   go_wp2_with (go_at_call 189;refine(HAT_.out _ HSd.out).mono ?_;rintro e w' ⟨rfl,rfl⟩)
   refine hK.out _ _ ?_ (fun hS1=>?_)
   ·exact HWd.out
   clear hK K hS0
   try simp only[Act.put,List.setIfInBounds_toArray,List.set_cons_zero,List.set_cons_succ]
   refine wpAnyE_one (i:=34) (o:=_) (by kernel_rfl) rfl (fun K hK=>?_)
   go_simp
   go_wp2_with (go_at_call 239;refine(c_l01Mul _ _ _ HGN.out HS0.out).mono ?_;rintro e w' ⟨rfl,rfl⟩)
   refine hK.out _ _ ?_ (fun hS2=>?_)
   ·exact HWd.out
   clear hK K hS1
   try simp only[Act.put,List.setIfInBounds_toArray,List.set_cons_zero,List.set_cons_succ]
   refine wpAnyE_one (i:=35) (o:=_) (by kernel_rfl) rfl (fun K hK=>?_)
   go_simp
   go_wp2_with (go_at_call 238;refine(c_mAdd _ _ _ HT0.out (wrp_smp _)).mono ?_;rintro e w' ⟨rfl,rfl⟩;rw[HIN.out])
   refine hK.out _ _ ?_ (fun hS3=>?_)
   ·exact HWd.out
   clear hK K hS2
   try simp only[Act.put,List.setIfInBounds_toArray,List.set_cons_zero,List.set_cons_succ]
   refine tE 36 hS3 ?_
   refine wpAnyE_tail (o:=_) (by kernel_rfl) rfl (by kernel_rfl) ?_
   have ck:=HWd.out.2.2.2.2.1;have fr:=HOd.out.freeN j
   go_wp2
   have HO2:=hide (HOd.out.setN j (wrp (t0+y.zR * s0)));have HG2:=hide (HOd.out.grownN j (.int .i64 (wrp (t0+y.zR * s0))))
   have hgB:w.heap.size≤g:=hgg;have hsd:=HBd.out.size
   go_roundw
   case rel=>exact⟨q+1,by omega,by go_num,by rw[HCU.out,HDA.out];exact HO2.out,HBd.out.grown HG2.out hsd (fun j hj=>by injection hj with hj;omega)⟩
   case measure=>simp[intOf];omega
theorem c_sRenderTrack (x:GTrack) (cs:List Value) (sources:List (List Int)) (sv:Value) (n:Nat) (w:World) (hT:TrackOk x) (hS:SourcesOk sources) (hc:Each x.zQ fun _ c=>c.zT<(sources.length:Int)) (hn:n≤4000) (hr:T.rd w (T.sl 26 1 (sources.map (T.ints 2))) [sv]) (h:T.rds w x.fs cs):Calls Tryz.prog 185 #[sv,.agg cs.toArray,.int .i64 (n:Int)] w fun e w'=> ∃ v,e= .returned (.tuple #[v,.int .i64 0])∧OwI 2 w' w.heap.size v (trackF sources x n)∧Below w.heap.size w w':=by
 obtain⟨v0,rfl,h0⟩:=GTrack.yN h
 clear h
 have R0:=hide h0;obtain⟨va0,vc0,rfl,vl0,vm0,vx0⟩:=T.yM h0
 have HX0:=hide vx0;clear vx0 h0
 have HB0:=hide (show Below w.heap.size w (w.alloc (.cells #[(.slice va0 x.zQ.length vc0)] 96)) from(Below.refl _ _).alloc (Nat.le_refl _) _)
 have HK0:=hide (Bk.born w 96 #[(.slice va0 x.zQ.length vc0)])
 have HTO:=hide hT;have HSO:=hide hS;have HCS:=hide hc;have HSR:=hide hr;have HTF:=hide (yX hT);clear hT hS hc
 obtain⟨SA,sc,rfl,sl_,sm,sx⟩:=T.yM hr;clear sx hr
 have hin:inB (n:Int) 0 4000=true:=yZ.2 ⟨by omega,by omega⟩;have HIN:=hide hin;clear hin
 go_enter Tryz.func185,Tryz.ntmps185
 go_wp2_with fail
 refine(c_l23Sources _ sources _ HSO.out (T.yE HSR.out HB0.out)).mono ?_;rintro e w' ⟨rfl,rfl⟩
 go_wp2_with fail
 refine(c_l23Ok x _ _ _ (T.at_bk HK0.out (GTrack.rd_mk (T.yE R0.out HB0.out)))).mono ?_;rintro e w1 ⟨rfl,hd⟩;rw[HTF.out]
 have hb:Below (w.alloc (.cells #[(.slice va0 x.zQ.length vc0)] 96)).heap.size (w.alloc (.cells #[(.slice va0 x.zQ.length vc0)] 96)) w1:=by first|exact hd|exact hd.to_below _|exact hd ▸ Below.refl _ _
 have HK1:=hide (HK0.out.below hb HK0.out.lt);have HB1:=hide (yI HB0.out HB0.out.size hb);clear hb hd;have ka:=HK1.out.cell;have la:=HK1.out.lt
 go_wp2_with fail
 refine(c_l00In _ _ _ _).mono ?_;rintro e w' ⟨rfl,rfl⟩;rw[HIN.out]
 go_wp2
 go_loopw [8] (fun i wr=> ∃ k:Nat,k≤x.zQ.length∧i= .int .i64 (k:Int)∧wr=w1) (fun i _=>x.zQ.length - (intOf i).toNat)
 case atStart=>exact⟨0,Nat.zero_le _,rfl,rfl⟩
 case round=>
  obtain⟨k,hk,rfl,rfl⟩:=hrel
  by_cases hlt:k<x.zQ.length
  rotate_left
  ·
   obtain rfl:k=x.zQ.length:=by omega
   go_wp2_with fail
   refine(c_l23Render x _ _ sources _ n _ HTO.out HSO.out HCS.out hn (T.yE HSR.out HB1.out) (T.at_bk HK1.out (GTrack.rd_mk (T.yE R0.out HB1.out)))).mono ?_;rintro e w9 ⟨v9,rfl,ho,hb⟩
   have HO9:=hide (own_more ho HB1.out.size);have HB9:=hide (yI HB1.out HB1.out.size hb);clear ho hb ka la
   go_wp2
   go_ret2
   exact⟨_,rfl,HO9.out,HB9.out⟩
  have HB:=HB1
  have hgk:=List.getElem?_eq_getElem hlt
  obtain⟨b1,off,cs1,hA,hb1,hcs,hcell⟩:=HX0.out k x.zQ[k] hgk
  subst hA
  generalize x.zQ[k]=y at *
  have HG:=hide hgk;clear hgk
  obtain rfl:=GClip.yN (show T.rds _ _ _ by simpa only[GClip.t,T.rd] using hcs)
  have d0:=(HB.out.cell hb1).trans (hcell 0 (.int .i64 y.zT) rfl)
  have d1:=(HB.out.cell hb1).trans (hcell 1 (.int .i64 y.zH) rfl)
  have d2:=(HB.out.cell hb1).trans (hcell 2 (.int .i64 y.zG) rfl)
  have d3:=(HB.out.cell hb1).trans (hcell 3 (.int .i64 y.zX) rfl)
  have d4:=(HB.out.cell hb1).trans (hcell 4 (.int .i64 y.zR) rfl)
  rw[show off+(k * 5+0)=off+k * 5 by omega] at d0
  rw[show off+(k * 5+1)=off+k * 5+1 by omega] at d1
  rw[show off+(k * 5+2)=off+k * 5+2 by omega] at d2
  rw[show off+(k * 5+3)=off+k * 5+3 by omega] at d3
  rw[show off+(k * 5+4)=off+k * 5+4 by omega] at d4
  clear hcs hcell
  have hq1:b1<wr.heap.size:=Nat.lt_of_lt_of_le hb1 HB.out.size
  have hso:=HCS.out k y HG.out
  go_wp2
  go_roundw
  case rel=>exact⟨k+1,by omega,by go_num,by first|trivial|rfl⟩
  case measure=>simp[intOf];omega
end Go.Proofs.YtoibekfhepnedaaGreat
