/- Contracts: nested data compared with itself. -/
import Derived.Test.YtoibekfhepnedaaGreatQAbExactMakeCache
import Derived.Test.YtoibekfhepnedaaGreatQAdExactMakeCache
import Derived.Deep.RegionHeld3
set_option linter.unusedVariables false
set_option linter.unusedSimpArgs false
set_option maxHeartbeats 1000000
set_option maxRecDepth 20000
namespace Go.Proofs.YtoibekfhepnedaaGreat
open Go.RowKit
theorem str_selfT (s:ByteArray):(s.toList == s.toList)=true:=by simp
theorem c_eqIB (v u:Value) (xs:List Int) (w:World) (hr:T.rd w (T.ints 2 xs) [v]) (ht:T.rd w (T.ints 2 xs) [u]):
  Calls Tryz.prog 63 #[v,u] w fun e w'=>e= .returned (.bool true)∧Below w.heap.size w w':=
 (c_eqI v u xs w (T.yT.1 hr) (T.yT.1 ht)).mono fun e w' ⟨h1,h2⟩=>⟨h1,h2.to_below _⟩
theorem c_eqInt64SS (v u:Value) (xs:List (List Int)) (w:World) (hr:T.rd w (T.sl 26 1 (xs.map (T.ints 2))) [v]) (ht:T.rd w (T.sl 26 1 (xs.map (T.ints 2))) [u]):
  Calls Tryz.prog 73 #[v,u] w fun e w'=>e= .returned (.bool true)∧Below w.heap.size w w':=by
 obtain⟨A1,cap1,rfl,hl1,hc1,hx1⟩:=T.yO hr
 obtain⟨A2,cap2,rfl,hl2,hc2,hx2⟩:=T.yO ht
 rw[List.length_map] at hl1 hl2 ⊢
 have HX1:=hide hx1;have HX2:=hide hx2;clear hx1 hx2 hr ht
 go_enter Tryz.func73,Tryz.ntmps73
 go_wp2
 go_loopw [5] (fun i wr=> ∃ k:Nat,k≤xs.length∧i= .int .i64 k∧Below w.heap.size w wr) (fun i _=>xs.length - (intOf i).toNat)
 case atStart=>exact⟨0,Nat.zero_le _,rfl,Below.refl _ _⟩
 case round=>
  obtain⟨k,hk,rfl,hb⟩:=hrel
  have HB:=hide hb;clear hb
  by_cases hlt:k<xs.length
  ·have hgk:=gE hlt
   obtain⟨b1,o1,cs1,rfl,hbw1,hcs1,hcell1⟩:=HX1.out k (T.ints 2 xs[k]) (by rw[List.getElem?_map,hgk];rfl)
   obtain⟨v1,rfl⟩:=T.rd_one hcs1
   have d1:=(HB.out.cell hbw1).trans (hcell1 0 v1 rfl)
   rw[Nat.mul_one,Nat.add_zero] at d1
   have R1:=hide (T.yF hcs1 HB.out)
   have hq1:b1<wr.heap.size:=lL hbw1 HB.out.size
   clear hcs1 hcell1
   obtain⟨b2,o2,cs2,rfl,hbw2,hcs2,hcell2⟩:=HX2.out k (T.ints 2 xs[k]) (by rw[List.getElem?_map,hgk];rfl)
   obtain⟨v2,rfl⟩:=T.rd_one hcs2
   have d2:=(HB.out.cell hbw2).trans (hcell2 0 v2 rfl)
   rw[Nat.mul_one,Nat.add_zero] at d2
   have R2:=hide (T.yF hcs2 HB.out)
   have hq2:b2<wr.heap.size:=lL hbw2 HB.out.size
   clear hcs2 hcell2
   generalize xs[k]=x at *
   clear hgk
   obtain⟨sa1,sl1,sc1,rfl⟩:=T.yV R1.out
   obtain⟨sa2,sl2,sc2,rfl⟩:=T.yV R2.out
   go_wp2
   go_region_held3 (fun w'=>w'.cell? ⟨b1,o1+k,none⟩=some (.slice sa1 sl1 sc1)∧w'.cell? ⟨b2,o2+k,none⟩=some (.slice sa2 sl2 sc2)) (first|go_keep|(refine⟨(hb3.cell ?_).trans ?_,(hb3.cell ?_).trans ?_⟩<;>first|assumption|(simp[*];done)|(simp;omega))) (first|(go_at_call 63;refine(c_eqIB _ _ x _ (T.yF R1.out (by first|exact Below.refl _ _|exact Below.drew (Below.refl _ _)|exact below_drewN (Below.refl _ _) _)) (T.yF R2.out (by first|exact Below.refl _ _|exact Below.drew (Below.refl _ _)|exact below_drewN (Below.refl _ _) _))).mono ?_;rintro e w3 ⟨rfl,hb3⟩))
   have hb4:Below w.heap.size w w3:=yJ HB.out HB.out.size (by first|exact hb3|exact undrew hb3|exact wM hb3)
   have HB4:=hide hb4;clear hb4 hb3
   go_wp2
   go_roundw
   case rel=>exact⟨k+1,by omega,by go_num,(by first|exact HB4.out|exact undrew HB4.out|exact Below.drew HB4.out|exact Below.drew (undrew HB4.out)|exact wM HB4.out|exact below_drewN HB4.out _)⟩
   case measure=>simp[intOf];omega
  ·go_wp2
   go_ret
   exact⟨rfl,HB.out⟩
theorem c_eqClip (x:xL) (w:World):
  Calls Tryz.prog 251 #[.agg #[.int .i64 x.zU,.int .i64 x.zH,.int .i64 x.zF,.int .i64 x.zX,.int .i64 x.zS],.agg #[.int .i64 x.zU,.int .i64 x.zH,.int .i64 x.zF,.int .i64 x.zX,.int .i64 x.zS]] w fun e w'=>e= .returned (.bool true)∧Below w.heap.size w w':=by
 go_enter Tryz.func251,Tryz.ntmps251
 have HB0:=hide (show Below w.heap.size w ((w.alloc (.cells #[.int .i64 x.zU,.int .i64 x.zH,.int .i64 x.zF,.int .i64 x.zX,.int .i64 x.zS] 39)).alloc (.cells #[.int .i64 x.zU,.int .i64 x.zH,.int .i64 x.zF,.int .i64 x.zX,.int .i64 x.zS] 39)) from((Below.refl _ _).alloc (Nat.le_refl _) _).alloc so _)
 have HK0:=hide ((Bk.born w 39 #[.int .i64 x.zU,.int .i64 x.zH,.int .i64 x.zF,.int .i64 x.zX,.int .i64 x.zS]).alloc (.cells #[.int .i64 x.zU,.int .i64 x.zH,.int .i64 x.zF,.int .i64 x.zX,.int .i64 x.zS] 39))
 have HJ0:=hide (Bk.born1' w (.cells #[.int .i64 x.zU,.int .i64 x.zH,.int .i64 x.zF,.int .i64 x.zX,.int .i64 x.zS] 39) 39 #[.int .i64 x.zU,.int .i64 x.zH,.int .i64 x.zF,.int .i64 x.zX,.int .i64 x.zS])
 go_wp2
 go_ret
 exact⟨rfl,HB0.out⟩
theorem c_eqClipS (v u:Value) (xs:List xL) (w:World) (hr:T.rd w (T.sl 39 5 (xs.map xL.t)) [v]) (ht:T.rd w (T.sl 39 5 (xs.map xL.t)) [u]):
  Calls Tryz.prog 205 #[v,u] w fun e w'=>e= .returned (.bool true)∧Below w.heap.size w w':=by
 obtain⟨A1,cap1,rfl,hl1,hc1,hx1⟩:=T.yO hr
 obtain⟨A2,cap2,rfl,hl2,hc2,hx2⟩:=T.yO ht
 rw[List.length_map] at hl1 hl2 ⊢
 have HX1:=hide hx1;have HX2:=hide hx2;clear hx1 hx2 hr ht
 go_enter Tryz.func205,Tryz.ntmps205
 go_wp2
 go_loopw [5] (fun i wr=> ∃ k:Nat,k≤xs.length∧i= .int .i64 k∧Below w.heap.size w wr) (fun i _=>xs.length - (intOf i).toNat)
 case atStart=>exact⟨0,Nat.zero_le _,rfl,Below.refl _ _⟩
 case round=>
  obtain⟨k,hk,rfl,hb⟩:=hrel
  have HB:=hide hb;clear hb
  by_cases hlt:k<xs.length
  ·have hgk:=gE hlt
   obtain⟨b1,o1,cs1,rfl,hbw1,hcs1,hcell1⟩:=HX1.out k (xL.t xs[k]) (by rw[List.getElem?_map,hgk];rfl)
   obtain⟨b2,o2,cs2,rfl,hbw2,hcs2,hcell2⟩:=HX2.out k (xL.t xs[k]) (by rw[List.getElem?_map,hgk];rfl)
   generalize xs[k]=x at *
   clear hgk
   obtain rfl:=xL.yO (show T.rds _ _ _ by simpa only[xL.t,T.rd] using hcs1)
   have d10:=(HB.out.cell hbw1).trans (hcell1 0 (.int .i64 x.zU) rfl)
   have d11:=(HB.out.cell hbw1).trans (hcell1 1 (.int .i64 x.zH) rfl)
   have d12:=(HB.out.cell hbw1).trans (hcell1 2 (.int .i64 x.zF) rfl)
   have d13:=(HB.out.cell hbw1).trans (hcell1 3 (.int .i64 x.zX) rfl)
   have d14:=(HB.out.cell hbw1).trans (hcell1 4 (.int .i64 x.zS) rfl)
   rw[show o1+(k * 5+0)=o1+k * 5 by omega] at d10
   rw[show o1+(k * 5+1)=o1+k * 5+1 by omega] at d11
   rw[show o1+(k * 5+2)=o1+k * 5+2 by omega] at d12
   rw[show o1+(k * 5+3)=o1+k * 5+3 by omega] at d13
   rw[show o1+(k * 5+4)=o1+k * 5+4 by omega] at d14
   clear hcs1 hcell1
   have hq1:b1<wr.heap.size:=lL hbw1 HB.out.size
   obtain rfl:=xL.yO (show T.rds _ _ _ by simpa only[xL.t,T.rd] using hcs2)
   have d20:=(HB.out.cell hbw2).trans (hcell2 0 (.int .i64 x.zU) rfl)
   have d21:=(HB.out.cell hbw2).trans (hcell2 1 (.int .i64 x.zH) rfl)
   have d22:=(HB.out.cell hbw2).trans (hcell2 2 (.int .i64 x.zF) rfl)
   have d23:=(HB.out.cell hbw2).trans (hcell2 3 (.int .i64 x.zX) rfl)
   have d24:=(HB.out.cell hbw2).trans (hcell2 4 (.int .i64 x.zS) rfl)
   rw[show o2+(k * 5+0)=o2+k * 5 by omega] at d20
   rw[show o2+(k * 5+1)=o2+k * 5+1 by omega] at d21
   rw[show o2+(k * 5+2)=o2+k * 5+2 by omega] at d22
   rw[show o2+(k * 5+3)=o2+k * 5+3 by omega] at d23
   rw[show o2+(k * 5+4)=o2+k * 5+4 by omega] at d24
   clear hcs2 hcell2
   have hq2:b2<wr.heap.size:=lL hbw2 HB.out.size
   go_wp2
   go_region_held3 (fun w'=>w'.cell? ⟨b1,o1+k * 5,none⟩=some (.int .i64 x.zU)∧w'.cell? ⟨b1,o1+k * 5+1,none⟩=some (.int .i64 x.zH)∧w'.cell? ⟨b1,o1+k * 5+2,none⟩=some (.int .i64 x.zF)∧w'.cell? ⟨b1,o1+k * 5+3,none⟩=some (.int .i64 x.zX)∧w'.cell? ⟨b1,o1+k * 5+4,none⟩=some (.int .i64 x.zS)∧w'.cell? ⟨b2,o2+k * 5,none⟩=some (.int .i64 x.zU)∧w'.cell? ⟨b2,o2+k * 5+1,none⟩=some (.int .i64 x.zH)∧w'.cell? ⟨b2,o2+k * 5+2,none⟩=some (.int .i64 x.zF)∧w'.cell? ⟨b2,o2+k * 5+3,none⟩=some (.int .i64 x.zX)∧w'.cell? ⟨b2,o2+k * 5+4,none⟩=some (.int .i64 x.zS)) (first|go_keep|(refine⟨(hb3.cell ?_).trans ?_,(hb3.cell ?_).trans ?_,(hb3.cell ?_).trans ?_,(hb3.cell ?_).trans ?_,(hb3.cell ?_).trans ?_,(hb3.cell ?_).trans ?_,(hb3.cell ?_).trans ?_,(hb3.cell ?_).trans ?_,(hb3.cell ?_).trans ?_,(hb3.cell ?_).trans ?_⟩<;>first|assumption|(simp[*];done)|(simp;omega))) (first|(go_at_call 251;refine(c_eqClip x _).mono ?_;rintro e w3 ⟨rfl,hb3⟩))
   have hb4:Below w.heap.size w w3:=yJ HB.out HB.out.size (by first|exact hb3|exact undrew hb3|exact wM hb3)
   have HB4:=hide hb4;clear hb4 hb3
   go_wp2
   go_roundw
   case rel=>exact⟨k+1,by omega,by go_num,(by first|exact HB4.out|exact undrew HB4.out|exact Below.drew HB4.out|exact Below.drew (undrew HB4.out)|exact wM HB4.out|exact below_drewN HB4.out _)⟩
   case measure=>simp[intOf];omega
  ·go_wp2
   go_ret
   exact⟨rfl,HB.out⟩
theorem c_eqTrack (x:xI) (v0:Value) (u0:Value) (w:World) (r0:T.rd w (T.sl 39 5 (x.zR.map xL.t)) [v0]) (t0:T.rd w (T.sl 39 5 (x.zR.map xL.t)) [u0]):
  Calls Tryz.prog 140 #[.agg #[v0],.agg #[u0]] w fun e w'=>e= .returned (.bool true)∧Below w.heap.size w w':=by
 have R0:=hide r0;have Q0:=hide t0
 clear r0 t0
 go_enter Tryz.func140,Tryz.ntmps140
 have HB0:=hide (show Below w.heap.size w ((w.alloc (.cells #[v0] 96)).alloc (.cells #[u0] 96)) from((Below.refl _ _).alloc (Nat.le_refl _) _).alloc so _)
 have HK0:=hide ((Bk.born w 96 #[v0]).alloc (.cells #[u0] 96))
 have HJ0:=hide (Bk.born1' w (.cells #[v0] 96) 96 #[u0])
 go_wp2_with fail
 refine(c_eqClipS _ _ x.zR _ (T.yF R0.out HB0.out) (T.yF Q0.out HB0.out)).mono ?_;rintro e w1 ⟨rfl,hb⟩
 have HK1:=hide (HK0.out.below hb HK0.out.lt);have HJ1:=hide (HJ0.out.below hb HJ0.out.lt);have HB1:=hide (yJ HB0.out HB0.out.size hb);clear hb
 have k1:=HK1.out.cell;have j1:=HJ1.out.cell
 go_wp2
 go_ret
 exact⟨rfl,HB1.out⟩
theorem c_eqTrackS (v u:Value) (xs:List xI) (w:World) (hr:T.rd w (T.sl 96 1 (xs.map xI.t)) [v]) (ht:T.rd w (T.sl 96 1 (xs.map xI.t)) [u]):
  Calls Tryz.prog 74 #[v,u] w fun e w'=>e= .returned (.bool true)∧Below w.heap.size w w':=by
 obtain⟨A1,cap1,rfl,hl1,hc1,hx1⟩:=T.yO hr
 obtain⟨A2,cap2,rfl,hl2,hc2,hx2⟩:=T.yO ht
 rw[List.length_map] at hl1 hl2 ⊢
 have HX1:=hide hx1;have HX2:=hide hx2;clear hx1 hx2 hr ht
 go_enter Tryz.func74,Tryz.ntmps74
 go_wp2
 go_loopw [5] (fun i wr=> ∃ k:Nat,k≤xs.length∧i= .int .i64 k∧Below w.heap.size w wr) (fun i _=>xs.length - (intOf i).toNat)
 case atStart=>exact⟨0,Nat.zero_le _,rfl,Below.refl _ _⟩
 case round=>
  obtain⟨k,hk,rfl,hb⟩:=hrel
  have HB:=hide hb;clear hb
  by_cases hlt:k<xs.length
  ·have hgk:=gE hlt
   obtain⟨b1,o1,cs1,rfl,hbw1,hcs1,hcell1⟩:=HX1.out k (xI.t xs[k]) (by rw[List.getElem?_map,hgk];rfl)
   obtain⟨b2,o2,cs2,rfl,hbw2,hcs2,hcell2⟩:=HX2.out k (xI.t xs[k]) (by rw[List.getElem?_map,hgk];rfl)
   generalize xs[k]=x at *
   clear hgk
   obtain⟨v0,rfl,hR10⟩:=xI.yO (show T.rds _ _ _ by simpa only[xI.t,T.rd] using hcs1)
   have d10:=(HB.out.cell hbw1).trans (hcell1 0 (v0) rfl)
   rw[show o1+(k * 1+0)=o1+k by omega] at d10
   have R10:=hide (T.yF hR10 HB.out);clear hR10
   clear hcs1 hcell1
   have hq1:b1<wr.heap.size:=lL hbw1 HB.out.size
   obtain⟨u0,rfl,hR20⟩:=xI.yO (show T.rds _ _ _ by simpa only[xI.t,T.rd] using hcs2)
   have d20:=(HB.out.cell hbw2).trans (hcell2 0 (u0) rfl)
   rw[show o2+(k * 1+0)=o2+k by omega] at d20
   have R20:=hide (T.yF hR20 HB.out);clear hR20
   clear hcs2 hcell2
   have hq2:b2<wr.heap.size:=lL hbw2 HB.out.size
   obtain⟨va0,vl0,vc0,rfl⟩:=T.yV R10.out
   obtain⟨ua0,ul0,uc0,rfl⟩:=T.yV R20.out
   go_wp2
   go_region_held3 (fun w'=>w'.cell? ⟨b1,o1+k,none⟩=some (.slice va0 vl0 vc0)∧w'.cell? ⟨b2,o2+k,none⟩=some (.slice ua0 ul0 uc0)) (first|go_keep|(refine⟨(hb3.cell ?_).trans ?_,(hb3.cell ?_).trans ?_⟩<;>first|assumption|(simp[*];done)|(simp;omega))) (first|(go_at_call 140;refine(c_eqTrack x _ _ _ (T.yF R10.out (by first|exact Below.refl _ _|exact Below.drew (Below.refl _ _)|exact below_drewN (Below.refl _ _) _)) (T.yF R20.out (by first|exact Below.refl _ _|exact Below.drew (Below.refl _ _)|exact below_drewN (Below.refl _ _) _))).mono ?_;rintro e w3 ⟨rfl,hb3⟩))
   have hb4:Below w.heap.size w w3:=yJ HB.out HB.out.size (by first|exact hb3|exact undrew hb3|exact wM hb3)
   have HB4:=hide hb4;clear hb4 hb3
   go_wp2
   go_roundw
   case rel=>exact⟨k+1,by omega,by go_num,(by first|exact HB4.out|exact undrew HB4.out|exact Below.drew HB4.out|exact Below.drew (undrew HB4.out)|exact wM HB4.out|exact below_drewN HB4.out _)⟩
   case measure=>simp[intOf];omega
  ·go_wp2
   go_ret
   exact⟨rfl,HB.out⟩
theorem c_eqNode (x:xJ) (v3:Value) (u3:Value) (w:World) (r3:T.rd w (T.ints 2 x.zH) [v3]) (t3:T.rd w (T.ints 2 x.zH) [u3]):
  Calls Tryz.prog 252 #[.agg #[.int .i64 x.zD,.int .i64 x.fA,.int .i64 x.fB,v3],.agg #[.int .i64 x.zD,.int .i64 x.fA,.int .i64 x.fB,u3]] w fun e w'=>e= .returned (.bool true)∧Below w.heap.size w w':=by
 have R3:=hide r3;have Q3:=hide t3
 clear r3 t3
 go_enter Tryz.func252,Tryz.ntmps252
 have HB0:=hide (show Below w.heap.size w ((w.alloc (.cells #[.int .i64 x.zD,.int .i64 x.fA,.int .i64 x.fB,v3] 167)).alloc (.cells #[.int .i64 x.zD,.int .i64 x.fA,.int .i64 x.fB,u3] 167)) from((Below.refl _ _).alloc (Nat.le_refl _) _).alloc so _)
 have HK0:=hide ((Bk.born w 167 #[.int .i64 x.zD,.int .i64 x.fA,.int .i64 x.fB,v3]).alloc (.cells #[.int .i64 x.zD,.int .i64 x.fA,.int .i64 x.fB,u3] 167))
 have HJ0:=hide (Bk.born1' w (.cells #[.int .i64 x.zD,.int .i64 x.fA,.int .i64 x.fB,v3] 167) 167 #[.int .i64 x.zD,.int .i64 x.fA,.int .i64 x.fB,u3])
 go_wp2_with fail
 refine(c_eqIB _ _ x.zH _ (T.yF R3.out HB0.out) (T.yF Q3.out HB0.out)).mono ?_;rintro e w1 ⟨rfl,hb⟩
 have HK1:=hide (HK0.out.below hb HK0.out.lt);have HJ1:=hide (HJ0.out.below hb HJ0.out.lt);have HB1:=hide (yJ HB0.out HB0.out.size hb);clear hb
 have k1:=HK1.out.cell;have j1:=HJ1.out.cell
 go_wp2
 go_ret
 exact⟨rfl,HB1.out⟩
theorem c_eqNodeS (v u:Value) (xs:List xJ) (w:World) (hr:T.rd w (T.sl 167 4 (xs.map xJ.t)) [v]) (ht:T.rd w (T.sl 167 4 (xs.map xJ.t)) [u]):
  Calls Tryz.prog 206 #[v,u] w fun e w'=>e= .returned (.bool true)∧Below w.heap.size w w':=by
 obtain⟨A1,cap1,rfl,hl1,hc1,hx1⟩:=T.yO hr
 obtain⟨A2,cap2,rfl,hl2,hc2,hx2⟩:=T.yO ht
 rw[List.length_map] at hl1 hl2 ⊢
 have HX1:=hide hx1;have HX2:=hide hx2;clear hx1 hx2 hr ht
 go_enter Tryz.func206,Tryz.ntmps206
 go_wp2
 go_loopw [5] (fun i wr=> ∃ k:Nat,k≤xs.length∧i= .int .i64 k∧Below w.heap.size w wr) (fun i _=>xs.length - (intOf i).toNat)
 case atStart=>exact⟨0,Nat.zero_le _,rfl,Below.refl _ _⟩
 case round=>
  obtain⟨k,hk,rfl,hb⟩:=hrel
  have HB:=hide hb;clear hb
  by_cases hlt:k<xs.length
  ·have hgk:=gE hlt
   obtain⟨b1,o1,cs1,rfl,hbw1,hcs1,hcell1⟩:=HX1.out k (xJ.t xs[k]) (by rw[List.getElem?_map,hgk];rfl)
   obtain⟨b2,o2,cs2,rfl,hbw2,hcs2,hcell2⟩:=HX2.out k (xJ.t xs[k]) (by rw[List.getElem?_map,hgk];rfl)
   generalize xs[k]=x at *
   clear hgk
   obtain⟨v3,rfl,hR13⟩:=xJ.yO (show T.rds _ _ _ by simpa only[xJ.t,T.rd] using hcs1)
   have d10:=(HB.out.cell hbw1).trans (hcell1 0 (.int .i64 x.zD) rfl)
   have d11:=(HB.out.cell hbw1).trans (hcell1 1 (.int .i64 x.fA) rfl)
   have d12:=(HB.out.cell hbw1).trans (hcell1 2 (.int .i64 x.fB) rfl)
   have d13:=(HB.out.cell hbw1).trans (hcell1 3 (v3) rfl)
   rw[show o1+(k * 4+0)=o1+k * 4 by omega] at d10
   rw[show o1+(k * 4+1)=o1+k * 4+1 by omega] at d11
   rw[show o1+(k * 4+2)=o1+k * 4+2 by omega] at d12
   rw[show o1+(k * 4+3)=o1+k * 4+3 by omega] at d13
   have R13:=hide (T.yF hR13 HB.out);clear hR13
   clear hcs1 hcell1
   have hq1:b1<wr.heap.size:=lL hbw1 HB.out.size
   obtain⟨u3,rfl,hR23⟩:=xJ.yO (show T.rds _ _ _ by simpa only[xJ.t,T.rd] using hcs2)
   have d20:=(HB.out.cell hbw2).trans (hcell2 0 (.int .i64 x.zD) rfl)
   have d21:=(HB.out.cell hbw2).trans (hcell2 1 (.int .i64 x.fA) rfl)
   have d22:=(HB.out.cell hbw2).trans (hcell2 2 (.int .i64 x.fB) rfl)
   have d23:=(HB.out.cell hbw2).trans (hcell2 3 (u3) rfl)
   rw[show o2+(k * 4+0)=o2+k * 4 by omega] at d20
   rw[show o2+(k * 4+1)=o2+k * 4+1 by omega] at d21
   rw[show o2+(k * 4+2)=o2+k * 4+2 by omega] at d22
   rw[show o2+(k * 4+3)=o2+k * 4+3 by omega] at d23
   have R23:=hide (T.yF hR23 HB.out);clear hR23
   clear hcs2 hcell2
   have hq2:b2<wr.heap.size:=lL hbw2 HB.out.size
   obtain⟨va3,vl3,vc3,rfl⟩:=T.yV R13.out
   obtain⟨ua3,ul3,uc3,rfl⟩:=T.yV R23.out
   go_wp2
   go_region_held3 (fun w'=>w'.cell? ⟨b1,o1+k * 4,none⟩=some (.int .i64 x.zD)∧w'.cell? ⟨b1,o1+k * 4+1,none⟩=some (.int .i64 x.fA)∧w'.cell? ⟨b1,o1+k * 4+2,none⟩=some (.int .i64 x.fB)∧w'.cell? ⟨b1,o1+k * 4+3,none⟩=some (.slice va3 vl3 vc3)∧w'.cell? ⟨b2,o2+k * 4,none⟩=some (.int .i64 x.zD)∧w'.cell? ⟨b2,o2+k * 4+1,none⟩=some (.int .i64 x.fA)∧w'.cell? ⟨b2,o2+k * 4+2,none⟩=some (.int .i64 x.fB)∧w'.cell? ⟨b2,o2+k * 4+3,none⟩=some (.slice ua3 ul3 uc3)) (first|go_keep|(refine⟨(hb3.cell ?_).trans ?_,(hb3.cell ?_).trans ?_,(hb3.cell ?_).trans ?_,(hb3.cell ?_).trans ?_,(hb3.cell ?_).trans ?_,(hb3.cell ?_).trans ?_,(hb3.cell ?_).trans ?_,(hb3.cell ?_).trans ?_⟩<;>first|assumption|(simp[*];done)|(simp;omega))) (first|(go_at_call 252;refine(c_eqNode x _ _ _ (T.yF R13.out (by first|exact Below.refl _ _|exact Below.drew (Below.refl _ _)|exact below_drewN (Below.refl _ _) _)) (T.yF R23.out (by first|exact Below.refl _ _|exact Below.drew (Below.refl _ _)|exact below_drewN (Below.refl _ _) _))).mono ?_;rintro e w3 ⟨rfl,hb3⟩))
   have hb4:Below w.heap.size w w3:=yJ HB.out HB.out.size (by first|exact hb3|exact undrew hb3|exact wM hb3)
   have HB4:=hide hb4;clear hb4 hb3
   go_wp2
   go_roundw
   case rel=>exact⟨k+1,by omega,by go_num,(by first|exact HB4.out|exact undrew HB4.out|exact Below.drew HB4.out|exact Below.drew (undrew HB4.out)|exact wM HB4.out|exact below_drewN HB4.out _)⟩
   case measure=>simp[intOf];omega
  ·go_wp2
   go_ret
   exact⟨rfl,HB.out⟩
theorem c_eqPatch (x:xG) (v1:Value) (v2:Value) (v3:Value) (u1:Value) (u2:Value) (u3:Value) (w:World) (r1:T.rd w (T.sl 26 1 (x.zN.map (T.ints 2))) [v1]) (r2:T.rd w (T.sl 167 4 (x.zB.map xJ.t)) [v2]) (r3:T.rd w (T.ints 2 x.zK) [v3]) (t1:T.rd w (T.sl 26 1 (x.zN.map (T.ints 2))) [u1]) (t2:T.rd w (T.sl 167 4 (x.zB.map xJ.t)) [u2]) (t3:T.rd w (T.ints 2 x.zK) [u3]):
  Calls Tryz.prog 141 #[.agg #[.int .i64 x.zJ,v1,v2,v3],.agg #[.int .i64 x.zJ,u1,u2,u3]] w fun e w'=>e= .returned (.bool true)∧Below w.heap.size w w':=by
 have R1:=hide r1;have Q1:=hide t1
 have R2:=hide r2;have Q2:=hide t2
 have R3:=hide r3;have Q3:=hide t3
 clear r1 t1 r2 t2 r3 t3
 go_enter Tryz.func141,Tryz.ntmps141
 have HB0:=hide (show Below w.heap.size w ((w.alloc (.cells #[.int .i64 x.zJ,v1,v2,v3] 108)).alloc (.cells #[.int .i64 x.zJ,u1,u2,u3] 108)) from((Below.refl _ _).alloc (Nat.le_refl _) _).alloc so _)
 have HK0:=hide ((Bk.born w 108 #[.int .i64 x.zJ,v1,v2,v3]).alloc (.cells #[.int .i64 x.zJ,u1,u2,u3] 108))
 have HJ0:=hide (Bk.born1' w (.cells #[.int .i64 x.zJ,v1,v2,v3] 108) 108 #[.int .i64 x.zJ,u1,u2,u3])
 go_wp2_with fail
 refine(c_eqInt64SS _ _ x.zN _ (T.yF R1.out HB0.out) (T.yF Q1.out HB0.out)).mono ?_;rintro e w1 ⟨rfl,hb⟩
 have HK1:=hide (HK0.out.below hb HK0.out.lt);have HJ1:=hide (HJ0.out.below hb HJ0.out.lt);have HB1:=hide (yJ HB0.out HB0.out.size hb);clear hb
 have k1:=HK1.out.cell;have j1:=HJ1.out.cell
 go_wp2_with fail
 refine(c_eqNodeS _ _ x.zB _ (T.yF R2.out HB1.out) (T.yF Q2.out HB1.out)).mono ?_;rintro e w2 ⟨rfl,hb⟩
 have HK2:=hide (HK1.out.below hb HK1.out.lt);have HJ2:=hide (HJ1.out.below hb HJ1.out.lt);have HB2:=hide (yJ HB1.out HB1.out.size hb);clear hb
 have k2:=HK2.out.cell;have j2:=HJ2.out.cell
 go_wp2_with fail
 refine(c_eqIB _ _ x.zK _ (T.yF R3.out HB2.out) (T.yF Q3.out HB2.out)).mono ?_;rintro e w3 ⟨rfl,hb⟩
 have HK3:=hide (HK2.out.below hb HK2.out.lt);have HJ3:=hide (HJ2.out.below hb HJ2.out.lt);have HB3:=hide (yJ HB2.out HB2.out.size hb);clear hb
 have k3:=HK3.out.cell;have j3:=HJ3.out.cell
 go_wp2
 go_ret
 exact⟨rfl,HB3.out⟩
theorem c_eqPatchS (v u:Value) (xs:List xG) (w:World) (hr:T.rd w (T.sl 108 4 (xs.map xG.t)) [v]) (ht:T.rd w (T.sl 108 4 (xs.map xG.t)) [u]):
  Calls Tryz.prog 75 #[v,u] w fun e w'=>e= .returned (.bool true)∧Below w.heap.size w w':=by
 obtain⟨A1,cap1,rfl,hl1,hc1,hx1⟩:=T.yO hr
 obtain⟨A2,cap2,rfl,hl2,hc2,hx2⟩:=T.yO ht
 rw[List.length_map] at hl1 hl2 ⊢
 have HX1:=hide hx1;have HX2:=hide hx2;clear hx1 hx2 hr ht
 go_enter Tryz.func75,Tryz.ntmps75
 go_wp2
 go_loopw [5] (fun i wr=> ∃ k:Nat,k≤xs.length∧i= .int .i64 k∧Below w.heap.size w wr) (fun i _=>xs.length - (intOf i).toNat)
 case atStart=>exact⟨0,Nat.zero_le _,rfl,Below.refl _ _⟩
 case round=>
  obtain⟨k,hk,rfl,hb⟩:=hrel
  have HB:=hide hb;clear hb
  by_cases hlt:k<xs.length
  ·have hgk:=gE hlt
   obtain⟨b1,o1,cs1,rfl,hbw1,hcs1,hcell1⟩:=HX1.out k (xG.t xs[k]) (by rw[List.getElem?_map,hgk];rfl)
   obtain⟨b2,o2,cs2,rfl,hbw2,hcs2,hcell2⟩:=HX2.out k (xG.t xs[k]) (by rw[List.getElem?_map,hgk];rfl)
   generalize xs[k]=x at *
   clear hgk
   obtain⟨v1,v2,v3,rfl,hR11,hR12,hR13⟩:=xG.yO (show T.rds _ _ _ by simpa only[xG.t,T.rd] using hcs1)
   have d10:=(HB.out.cell hbw1).trans (hcell1 0 (.int .i64 x.zJ) rfl)
   have d11:=(HB.out.cell hbw1).trans (hcell1 1 (v1) rfl)
   have d12:=(HB.out.cell hbw1).trans (hcell1 2 (v2) rfl)
   have d13:=(HB.out.cell hbw1).trans (hcell1 3 (v3) rfl)
   rw[show o1+(k * 4+0)=o1+k * 4 by omega] at d10
   rw[show o1+(k * 4+1)=o1+k * 4+1 by omega] at d11
   rw[show o1+(k * 4+2)=o1+k * 4+2 by omega] at d12
   rw[show o1+(k * 4+3)=o1+k * 4+3 by omega] at d13
   have R11:=hide (T.yF hR11 HB.out);clear hR11
   have R12:=hide (T.yF hR12 HB.out);clear hR12
   have R13:=hide (T.yF hR13 HB.out);clear hR13
   clear hcs1 hcell1
   have hq1:b1<wr.heap.size:=lL hbw1 HB.out.size
   obtain⟨u1,u2,u3,rfl,hR21,hR22,hR23⟩:=xG.yO (show T.rds _ _ _ by simpa only[xG.t,T.rd] using hcs2)
   have d20:=(HB.out.cell hbw2).trans (hcell2 0 (.int .i64 x.zJ) rfl)
   have d21:=(HB.out.cell hbw2).trans (hcell2 1 (u1) rfl)
   have d22:=(HB.out.cell hbw2).trans (hcell2 2 (u2) rfl)
   have d23:=(HB.out.cell hbw2).trans (hcell2 3 (u3) rfl)
   rw[show o2+(k * 4+0)=o2+k * 4 by omega] at d20
   rw[show o2+(k * 4+1)=o2+k * 4+1 by omega] at d21
   rw[show o2+(k * 4+2)=o2+k * 4+2 by omega] at d22
   rw[show o2+(k * 4+3)=o2+k * 4+3 by omega] at d23
   have R21:=hide (T.yF hR21 HB.out);clear hR21
   have R22:=hide (T.yF hR22 HB.out);clear hR22
   have R23:=hide (T.yF hR23 HB.out);clear hR23
   clear hcs2 hcell2
   have hq2:b2<wr.heap.size:=lL hbw2 HB.out.size
   obtain⟨va1,vl1,vc1,rfl⟩:=T.yV R11.out
   obtain⟨va2,vl2,vc2,rfl⟩:=T.yV R12.out
   obtain⟨va3,vl3,vc3,rfl⟩:=T.yV R13.out
   obtain⟨ua1,ul1,uc1,rfl⟩:=T.yV R21.out
   obtain⟨ua2,ul2,uc2,rfl⟩:=T.yV R22.out
   obtain⟨ua3,ul3,uc3,rfl⟩:=T.yV R23.out
   go_wp2
   go_region_held3 (fun w'=>w'.cell? ⟨b1,o1+k * 4,none⟩=some (.int .i64 x.zJ)∧w'.cell? ⟨b1,o1+k * 4+1,none⟩=some (.slice va1 vl1 vc1)∧w'.cell? ⟨b1,o1+k * 4+2,none⟩=some (.slice va2 vl2 vc2)∧w'.cell? ⟨b1,o1+k * 4+3,none⟩=some (.slice va3 vl3 vc3)∧w'.cell? ⟨b2,o2+k * 4,none⟩=some (.int .i64 x.zJ)∧w'.cell? ⟨b2,o2+k * 4+1,none⟩=some (.slice ua1 ul1 uc1)∧w'.cell? ⟨b2,o2+k * 4+2,none⟩=some (.slice ua2 ul2 uc2)∧w'.cell? ⟨b2,o2+k * 4+3,none⟩=some (.slice ua3 ul3 uc3)) (first|go_keep|(refine⟨(hb3.cell ?_).trans ?_,(hb3.cell ?_).trans ?_,(hb3.cell ?_).trans ?_,(hb3.cell ?_).trans ?_,(hb3.cell ?_).trans ?_,(hb3.cell ?_).trans ?_,(hb3.cell ?_).trans ?_,(hb3.cell ?_).trans ?_⟩<;>first|assumption|(simp[*];done)|(simp;omega))) (first|(go_at_call 141;refine(c_eqPatch x _ _ _ _ _ _ _ (T.yF R11.out (by first|exact Below.refl _ _|exact Below.drew (Below.refl _ _)|exact below_drewN (Below.refl _ _) _)) (T.yF R12.out (by first|exact Below.refl _ _|exact Below.drew (Below.refl _ _)|exact below_drewN (Below.refl _ _) _)) (T.yF R13.out (by first|exact Below.refl _ _|exact Below.drew (Below.refl _ _)|exact below_drewN (Below.refl _ _) _)) (T.yF R21.out (by first|exact Below.refl _ _|exact Below.drew (Below.refl _ _)|exact below_drewN (Below.refl _ _) _)) (T.yF R22.out (by first|exact Below.refl _ _|exact Below.drew (Below.refl _ _)|exact below_drewN (Below.refl _ _) _)) (T.yF R23.out (by first|exact Below.refl _ _|exact Below.drew (Below.refl _ _)|exact below_drewN (Below.refl _ _) _))).mono ?_;rintro e w3 ⟨rfl,hb3⟩))
   have hb4:Below w.heap.size w w3:=yJ HB.out HB.out.size (by first|exact hb3|exact undrew hb3|exact wM hb3)
   have HB4:=hide hb4;clear hb4 hb3
   go_wp2
   go_roundw
   case rel=>exact⟨k+1,by omega,by go_num,(by first|exact HB4.out|exact undrew HB4.out|exact Below.drew HB4.out|exact Below.drew (undrew HB4.out)|exact wM HB4.out|exact below_drewN HB4.out _)⟩
   case measure=>simp[intOf];omega
  ·go_wp2
   go_ret
   exact⟨rfl,HB.out⟩
theorem c_eqSend (x:xM) (w:World):
  Calls Tryz.prog 276 #[.agg #[.int .i64 x.zW,.int .i64 x.zS],.agg #[.int .i64 x.zW,.int .i64 x.zS]] w fun e w'=>e= .returned (.bool true)∧Below w.heap.size w w':=by
 go_enter Tryz.func276,Tryz.ntmps276
 have HB0:=hide (show Below w.heap.size w ((w.alloc (.cells #[.int .i64 x.zW,.int .i64 x.zS] 98)).alloc (.cells #[.int .i64 x.zW,.int .i64 x.zS] 98)) from((Below.refl _ _).alloc (Nat.le_refl _) _).alloc so _)
 have HK0:=hide ((Bk.born w 98 #[.int .i64 x.zW,.int .i64 x.zS]).alloc (.cells #[.int .i64 x.zW,.int .i64 x.zS] 98))
 have HJ0:=hide (Bk.born1' w (.cells #[.int .i64 x.zW,.int .i64 x.zS] 98) 98 #[.int .i64 x.zW,.int .i64 x.zS])
 go_wp2
 go_ret
 exact⟨rfl,HB0.out⟩
theorem c_eqSendS (v u:Value) (xs:List xM) (w:World) (hr:T.rd w (T.sl 98 2 (xs.map xM.t)) [v]) (ht:T.rd w (T.sl 98 2 (xs.map xM.t)) [u]):
  Calls Tryz.prog 253 #[v,u] w fun e w'=>e= .returned (.bool true)∧Below w.heap.size w w':=by
 obtain⟨A1,cap1,rfl,hl1,hc1,hx1⟩:=T.yO hr
 obtain⟨A2,cap2,rfl,hl2,hc2,hx2⟩:=T.yO ht
 rw[List.length_map] at hl1 hl2 ⊢
 have HX1:=hide hx1;have HX2:=hide hx2;clear hx1 hx2 hr ht
 go_enter Tryz.func253,Tryz.ntmps253
 go_wp2
 go_loopw [5] (fun i wr=> ∃ k:Nat,k≤xs.length∧i= .int .i64 k∧Below w.heap.size w wr) (fun i _=>xs.length - (intOf i).toNat)
 case atStart=>exact⟨0,Nat.zero_le _,rfl,Below.refl _ _⟩
 case round=>
  obtain⟨k,hk,rfl,hb⟩:=hrel
  have HB:=hide hb;clear hb
  by_cases hlt:k<xs.length
  ·have hgk:=gE hlt
   obtain⟨b1,o1,cs1,rfl,hbw1,hcs1,hcell1⟩:=HX1.out k (xM.t xs[k]) (by rw[List.getElem?_map,hgk];rfl)
   obtain⟨b2,o2,cs2,rfl,hbw2,hcs2,hcell2⟩:=HX2.out k (xM.t xs[k]) (by rw[List.getElem?_map,hgk];rfl)
   generalize xs[k]=x at *
   clear hgk
   obtain rfl:=xM.yO (show T.rds _ _ _ by simpa only[xM.t,T.rd] using hcs1)
   have d10:=(HB.out.cell hbw1).trans (hcell1 0 (.int .i64 x.zW) rfl)
   have d11:=(HB.out.cell hbw1).trans (hcell1 1 (.int .i64 x.zS) rfl)
   rw[show o1+(k * 2+0)=o1+k * 2 by omega] at d10
   rw[show o1+(k * 2+1)=o1+k * 2+1 by omega] at d11
   clear hcs1 hcell1
   have hq1:b1<wr.heap.size:=lL hbw1 HB.out.size
   obtain rfl:=xM.yO (show T.rds _ _ _ by simpa only[xM.t,T.rd] using hcs2)
   have d20:=(HB.out.cell hbw2).trans (hcell2 0 (.int .i64 x.zW) rfl)
   have d21:=(HB.out.cell hbw2).trans (hcell2 1 (.int .i64 x.zS) rfl)
   rw[show o2+(k * 2+0)=o2+k * 2 by omega] at d20
   rw[show o2+(k * 2+1)=o2+k * 2+1 by omega] at d21
   clear hcs2 hcell2
   have hq2:b2<wr.heap.size:=lL hbw2 HB.out.size
   go_wp2
   go_region_held3 (fun w'=>w'.cell? ⟨b1,o1+k * 2,none⟩=some (.int .i64 x.zW)∧w'.cell? ⟨b1,o1+k * 2+1,none⟩=some (.int .i64 x.zS)∧w'.cell? ⟨b2,o2+k * 2,none⟩=some (.int .i64 x.zW)∧w'.cell? ⟨b2,o2+k * 2+1,none⟩=some (.int .i64 x.zS)) (first|go_keep|(refine⟨(hb3.cell ?_).trans ?_,(hb3.cell ?_).trans ?_,(hb3.cell ?_).trans ?_,(hb3.cell ?_).trans ?_⟩<;>first|assumption|(simp[*];done)|(simp;omega))) (first|(go_at_call 276;refine(c_eqSend x _).mono ?_;rintro e w3 ⟨rfl,hb3⟩))
   have hb4:Below w.heap.size w w3:=yJ HB.out HB.out.size (by first|exact hb3|exact undrew hb3|exact wM hb3)
   have HB4:=hide hb4;clear hb4 hb3
   go_wp2
   go_roundw
   case rel=>exact⟨k+1,by omega,by go_num,(by first|exact HB4.out|exact undrew HB4.out|exact Below.drew HB4.out|exact Below.drew (undrew HB4.out)|exact wM HB4.out|exact below_drewN HB4.out _)⟩
   case measure=>simp[intOf];omega
  ·go_wp2
   go_ret
   exact⟨rfl,HB.out⟩
theorem c_eqStrip (x:xH) (v2:Value) (u2:Value) (w:World) (r2:T.rd w (T.sl 98 2 (x.zM.map xM.t)) [v2]) (t2:T.rd w (T.sl 98 2 (x.zM.map xM.t)) [u2]):
  Calls Tryz.prog 207 #[.agg #[.string x.zV,.int .i64 x.zI,v2],.agg #[.string x.zV,.int .i64 x.zI,u2]] w fun e w'=>e= .returned (.bool true)∧Below w.heap.size w w':=by
 have R2:=hide r2;have Q2:=hide t2
 clear r2 t2
 have hse0:=str_selfT x.zV
 go_enter Tryz.func207,Tryz.ntmps207
 have HB0:=hide (show Below w.heap.size w ((w.alloc (.cells #[.string x.zV,.int .i64 x.zI,v2] 101)).alloc (.cells #[.string x.zV,.int .i64 x.zI,u2] 101)) from((Below.refl _ _).alloc (Nat.le_refl _) _).alloc so _)
 have HK0:=hide ((Bk.born w 101 #[.string x.zV,.int .i64 x.zI,v2]).alloc (.cells #[.string x.zV,.int .i64 x.zI,u2] 101))
 have HJ0:=hide (Bk.born1' w (.cells #[.string x.zV,.int .i64 x.zI,v2] 101) 101 #[.string x.zV,.int .i64 x.zI,u2])
 go_wp2_with fail
 refine(c_eqSendS _ _ x.zM _ (T.yF R2.out HB0.out) (T.yF Q2.out HB0.out)).mono ?_;rintro e w1 ⟨rfl,hb⟩
 have HK1:=hide (HK0.out.below hb HK0.out.lt);have HJ1:=hide (HJ0.out.below hb HJ0.out.lt);have HB1:=hide (yJ HB0.out HB0.out.size hb);clear hb
 have k1:=HK1.out.cell;have j1:=HJ1.out.cell
 go_wp2
 go_ret
 exact⟨rfl,HB1.out⟩
theorem c_eqStripS (v u:Value) (xs:List xH) (w:World) (hr:T.rd w (T.sl 101 3 (xs.map xH.t)) [v]) (ht:T.rd w (T.sl 101 3 (xs.map xH.t)) [u]):
  Calls Tryz.prog 142 #[v,u] w fun e w'=>e= .returned (.bool true)∧Below w.heap.size w w':=by
 obtain⟨A1,cap1,rfl,hl1,hc1,hx1⟩:=T.yO hr
 obtain⟨A2,cap2,rfl,hl2,hc2,hx2⟩:=T.yO ht
 rw[List.length_map] at hl1 hl2 ⊢
 have HX1:=hide hx1;have HX2:=hide hx2;clear hx1 hx2 hr ht
 go_enter Tryz.func142,Tryz.ntmps142
 go_wp2
 go_loopw [5] (fun i wr=> ∃ k:Nat,k≤xs.length∧i= .int .i64 k∧Below w.heap.size w wr) (fun i _=>xs.length - (intOf i).toNat)
 case atStart=>exact⟨0,Nat.zero_le _,rfl,Below.refl _ _⟩
 case round=>
  obtain⟨k,hk,rfl,hb⟩:=hrel
  have HB:=hide hb;clear hb
  by_cases hlt:k<xs.length
  ·have hgk:=gE hlt
   obtain⟨b1,o1,cs1,rfl,hbw1,hcs1,hcell1⟩:=HX1.out k (xH.t xs[k]) (by rw[List.getElem?_map,hgk];rfl)
   obtain⟨b2,o2,cs2,rfl,hbw2,hcs2,hcell2⟩:=HX2.out k (xH.t xs[k]) (by rw[List.getElem?_map,hgk];rfl)
   generalize xs[k]=x at *
   clear hgk
   obtain⟨v2,rfl,hR12⟩:=xH.yO (show T.rds _ _ _ by simpa only[xH.t,T.rd] using hcs1)
   have d10:=(HB.out.cell hbw1).trans (hcell1 0 (.string x.zV) rfl)
   have d11:=(HB.out.cell hbw1).trans (hcell1 1 (.int .i64 x.zI) rfl)
   have d12:=(HB.out.cell hbw1).trans (hcell1 2 (v2) rfl)
   rw[show o1+(k * 3+0)=o1+k * 3 by omega] at d10
   rw[show o1+(k * 3+1)=o1+k * 3+1 by omega] at d11
   rw[show o1+(k * 3+2)=o1+k * 3+2 by omega] at d12
   have R12:=hide (T.yF hR12 HB.out);clear hR12
   clear hcs1 hcell1
   have hq1:b1<wr.heap.size:=lL hbw1 HB.out.size
   obtain⟨u2,rfl,hR22⟩:=xH.yO (show T.rds _ _ _ by simpa only[xH.t,T.rd] using hcs2)
   have d20:=(HB.out.cell hbw2).trans (hcell2 0 (.string x.zV) rfl)
   have d21:=(HB.out.cell hbw2).trans (hcell2 1 (.int .i64 x.zI) rfl)
   have d22:=(HB.out.cell hbw2).trans (hcell2 2 (u2) rfl)
   rw[show o2+(k * 3+0)=o2+k * 3 by omega] at d20
   rw[show o2+(k * 3+1)=o2+k * 3+1 by omega] at d21
   rw[show o2+(k * 3+2)=o2+k * 3+2 by omega] at d22
   have R22:=hide (T.yF hR22 HB.out);clear hR22
   clear hcs2 hcell2
   have hq2:b2<wr.heap.size:=lL hbw2 HB.out.size
   obtain⟨va2,vl2,vc2,rfl⟩:=T.yV R12.out
   obtain⟨ua2,ul2,uc2,rfl⟩:=T.yV R22.out
   go_wp2
   go_region_held3 (fun w'=>w'.cell? ⟨b1,o1+k * 3,none⟩=some (.string x.zV)∧w'.cell? ⟨b1,o1+k * 3+1,none⟩=some (.int .i64 x.zI)∧w'.cell? ⟨b1,o1+k * 3+2,none⟩=some (.slice va2 vl2 vc2)∧w'.cell? ⟨b2,o2+k * 3,none⟩=some (.string x.zV)∧w'.cell? ⟨b2,o2+k * 3+1,none⟩=some (.int .i64 x.zI)∧w'.cell? ⟨b2,o2+k * 3+2,none⟩=some (.slice ua2 ul2 uc2)) (first|go_keep|(refine⟨(hb3.cell ?_).trans ?_,(hb3.cell ?_).trans ?_,(hb3.cell ?_).trans ?_,(hb3.cell ?_).trans ?_,(hb3.cell ?_).trans ?_,(hb3.cell ?_).trans ?_⟩<;>first|assumption|(simp[*];done)|(simp;omega))) (first|(go_at_call 207;refine(c_eqStrip x _ _ _ (T.yF R12.out (by first|exact Below.refl _ _|exact Below.drew (Below.refl _ _)|exact below_drewN (Below.refl _ _) _)) (T.yF R22.out (by first|exact Below.refl _ _|exact Below.drew (Below.refl _ _)|exact below_drewN (Below.refl _ _) _))).mono ?_;rintro e w3 ⟨rfl,hb3⟩))
   have hb4:Below w.heap.size w w3:=yJ HB.out HB.out.size (by first|exact hb3|exact undrew hb3|exact wM hb3)
   have HB4:=hide hb4;clear hb4 hb3
   go_wp2
   go_roundw
   case rel=>exact⟨k+1,by omega,by go_num,(by first|exact HB4.out|exact undrew HB4.out|exact Below.drew HB4.out|exact Below.drew (undrew HB4.out)|exact wM HB4.out|exact below_drewN HB4.out _)⟩
   case measure=>simp[intOf];omega
  ·go_wp2
   go_ret
   exact⟨rfl,HB.out⟩
theorem c_eqMixer (x:xU) (v0:Value) (u0:Value) (w:World) (r0:T.rd w (T.sl 101 3 (x.zC.map xH.t)) [v0]) (t0:T.rd w (T.sl 101 3 (x.zC.map xH.t)) [u0]):
  Calls Tryz.prog 76 #[.agg #[v0],.agg #[u0]] w fun e w'=>e= .returned (.bool true)∧Below w.heap.size w w':=by
 have R0:=hide r0;have Q0:=hide t0
 clear r0 t0
 go_enter Tryz.func76,Tryz.ntmps76
 have HB0:=hide (show Below w.heap.size w ((w.alloc (.cells #[v0] 30)).alloc (.cells #[u0] 30)) from((Below.refl _ _).alloc (Nat.le_refl _) _).alloc so _)
 have HK0:=hide ((Bk.born w 30 #[v0]).alloc (.cells #[u0] 30))
 have HJ0:=hide (Bk.born1' w (.cells #[v0] 30) 30 #[u0])
 go_wp2_with fail
 refine(c_eqStripS _ _ x.zC _ (T.yF R0.out HB0.out) (T.yF Q0.out HB0.out)).mono ?_;rintro e w1 ⟨rfl,hb⟩
 have HK1:=hide (HK0.out.below hb HK0.out.lt);have HJ1:=hide (HJ0.out.below hb HJ0.out.lt);have HB1:=hide (yJ HB0.out HB0.out.size hb);clear hb
 have k1:=HK1.out.cell;have j1:=HJ1.out.cell
 go_wp2
 go_ret
 exact⟨rfl,HB1.out⟩
theorem c_eqSession (x:xK) (v1:Value) (v2:Value) (v3:Value) (v4:Value) (v5:Value) (u1:Value) (u2:Value) (u3:Value) (u4:Value) (u5:Value) (w:World) (r1:T.rd w (T.sl 26 1 (x.zL.map (T.ints 2))) [v1]) (r2:T.rd w (T.sl 96 1 (x.zO.map xI.t)) [v2]) (r3:T.rd w (T.ints 2 x.zQ) [v3]) (r4:T.rd w (T.sl 108 4 (x.zP.map xG.t)) [v4]) (r5:T.rd w (T.sl 101 3 (x.zG.zC.map xH.t)) [v5]) (t1:T.rd w (T.sl 26 1 (x.zL.map (T.ints 2))) [u1]) (t2:T.rd w (T.sl 96 1 (x.zO.map xI.t)) [u2]) (t3:T.rd w (T.ints 2 x.zQ) [u3]) (t4:T.rd w (T.sl 108 4 (x.zP.map xG.t)) [u4]) (t5:T.rd w (T.sl 101 3 (x.zG.zC.map xH.t)) [u5]):
  Calls Tryz.prog 28 #[.agg #[.int .i64 x.zF,v1,v2,v3,v4,v5],.agg #[.int .i64 x.zF,u1,u2,u3,u4,u5]] w fun e w'=>e= .returned (.bool true)∧Below w.heap.size w w':=by
 have R1:=hide r1;have Q1:=hide t1
 have R2:=hide r2;have Q2:=hide t2
 have R3:=hide r3;have Q3:=hide t3
 have R4:=hide r4;have Q4:=hide t4
 have R5:=hide r5;have Q5:=hide t5
 clear r1 t1 r2 t2 r3 t3 r4 t4 r5 t5
 go_enter Tryz.func28,Tryz.ntmps28
 have HB0:=hide (show Below w.heap.size w ((w.alloc (.cells #[.int .i64 x.zF,v1,v2,v3,v4,v5] 32)).alloc (.cells #[.int .i64 x.zF,u1,u2,u3,u4,u5] 32)) from((Below.refl _ _).alloc (Nat.le_refl _) _).alloc so _)
 have HK0:=hide ((Bk.born w 32 #[.int .i64 x.zF,v1,v2,v3,v4,v5]).alloc (.cells #[.int .i64 x.zF,u1,u2,u3,u4,u5] 32))
 have HJ0:=hide (Bk.born1' w (.cells #[.int .i64 x.zF,v1,v2,v3,v4,v5] 32) 32 #[.int .i64 x.zF,u1,u2,u3,u4,u5])
 go_wp2_with fail
 refine(c_eqInt64SS _ _ x.zL _ (T.yF R1.out HB0.out) (T.yF Q1.out HB0.out)).mono ?_;rintro e w1 ⟨rfl,hb⟩
 have HK1:=hide (HK0.out.below hb HK0.out.lt);have HJ1:=hide (HJ0.out.below hb HJ0.out.lt);have HB1:=hide (yJ HB0.out HB0.out.size hb);clear hb
 have k1:=HK1.out.cell;have j1:=HJ1.out.cell
 go_wp2_with fail
 refine(c_eqTrackS _ _ x.zO _ (T.yF R2.out HB1.out) (T.yF Q2.out HB1.out)).mono ?_;rintro e w2 ⟨rfl,hb⟩
 have HK2:=hide (HK1.out.below hb HK1.out.lt);have HJ2:=hide (HJ1.out.below hb HJ1.out.lt);have HB2:=hide (yJ HB1.out HB1.out.size hb);clear hb
 have k2:=HK2.out.cell;have j2:=HJ2.out.cell
 go_wp2_with fail
 refine(c_eqIB _ _ x.zQ _ (T.yF R3.out HB2.out) (T.yF Q3.out HB2.out)).mono ?_;rintro e w3 ⟨rfl,hb⟩
 have HK3:=hide (HK2.out.below hb HK2.out.lt);have HJ3:=hide (HJ2.out.below hb HJ2.out.lt);have HB3:=hide (yJ HB2.out HB2.out.size hb);clear hb
 have k3:=HK3.out.cell;have j3:=HJ3.out.cell
 go_wp2_with fail
 refine(c_eqPatchS _ _ x.zP _ (T.yF R4.out HB3.out) (T.yF Q4.out HB3.out)).mono ?_;rintro e w4 ⟨rfl,hb⟩
 have HK4:=hide (HK3.out.below hb HK3.out.lt);have HJ4:=hide (HJ3.out.below hb HJ3.out.lt);have HB4:=hide (yJ HB3.out HB3.out.size hb);clear hb
 have k4:=HK4.out.cell;have j4:=HJ4.out.cell
 go_wp2_with fail
 refine(c_eqMixer x.zG v5 u5 _ (T.yF R5.out HB4.out) (T.yF Q5.out HB4.out)).mono ?_;rintro e w5 ⟨rfl,hb⟩
 have HK5:=hide (HK4.out.below hb HK4.out.lt);have HJ5:=hide (HJ4.out.below hb HJ4.out.lt);have HB5:=hide (yJ HB4.out HB4.out.size hb);clear hb
 have k5:=HK5.out.cell;have j5:=HJ5.out.cell
 go_wp2
 go_ret
 exact⟨rfl,HB5.out⟩
theorem c_eqCache (x:wS) (v1:Value) (v2:Value) (v3:Value) (v4:Value) (v5:Value) (v6:Value) (v7:Value) (u1:Value) (u2:Value) (u3:Value) (u4:Value) (u5:Value) (u6:Value) (u7:Value) (w:World) (r1:T.rd w (T.sl 26 1 (x.zT.zL.map (T.ints 2))) [v1]) (r2:T.rd w (T.sl 96 1 (x.zT.zO.map xI.t)) [v2]) (r3:T.rd w (T.ints 2 x.zT.zQ) [v3]) (r4:T.rd w (T.sl 108 4 (x.zT.zP.map xG.t)) [v4]) (r5:T.rd w (T.sl 101 3 (x.zT.zG.zC.map xH.t)) [v5]) (r6:T.rd w (T.ints 2 x.zZ) [v6]) (r7:T.rd w (T.ints 2 x.zY) [v7]) (t1:T.rd w (T.sl 26 1 (x.zT.zL.map (T.ints 2))) [u1]) (t2:T.rd w (T.sl 96 1 (x.zT.zO.map xI.t)) [u2]) (t3:T.rd w (T.ints 2 x.zT.zQ) [u3]) (t4:T.rd w (T.sl 108 4 (x.zT.zP.map xG.t)) [u4]) (t5:T.rd w (T.sl 101 3 (x.zT.zG.zC.map xH.t)) [u5]) (t6:T.rd w (T.ints 2 x.zZ) [u6]) (t7:T.rd w (T.ints 2 x.zY) [u7]):
  Calls Tryz.prog 23 #[.agg #[.int .i64 x.zT.zF,v1,v2,v3,v4,v5,v6,v7],.agg #[.int .i64 x.zT.zF,u1,u2,u3,u4,u5,u6,u7]] w fun e w'=>e= .returned (.bool true)∧Below w.heap.size w w':=by
 have R1:=hide r1;have Q1:=hide t1
 have R2:=hide r2;have Q2:=hide t2
 have R3:=hide r3;have Q3:=hide t3
 have R4:=hide r4;have Q4:=hide t4
 have R5:=hide r5;have Q5:=hide t5
 have R6:=hide r6;have Q6:=hide t6
 have R7:=hide r7;have Q7:=hide t7
 clear r1 t1 r2 t2 r3 t3 r4 t4 r5 t5 r6 t6 r7 t7
 go_enter Tryz.func23,Tryz.ntmps23
 have HB0:=hide (show Below w.heap.size w ((w.alloc (.cells #[.int .i64 x.zT.zF,v1,v2,v3,v4,v5,v6,v7] 65)).alloc (.cells #[.int .i64 x.zT.zF,u1,u2,u3,u4,u5,u6,u7] 65)) from((Below.refl _ _).alloc (Nat.le_refl _) _).alloc so _)
 have HK0:=hide ((Bk.born w 65 #[.int .i64 x.zT.zF,v1,v2,v3,v4,v5,v6,v7]).alloc (.cells #[.int .i64 x.zT.zF,u1,u2,u3,u4,u5,u6,u7] 65))
 have HJ0:=hide (Bk.born1' w (.cells #[.int .i64 x.zT.zF,v1,v2,v3,v4,v5,v6,v7] 65) 65 #[.int .i64 x.zT.zF,u1,u2,u3,u4,u5,u6,u7])
 go_wp2_with fail
 refine(c_eqSession x.zT v1 v2 v3 v4 v5 u1 u2 u3 u4 u5 _ (T.yF R1.out HB0.out) (T.yF R2.out HB0.out) (T.yF R3.out HB0.out) (T.yF R4.out HB0.out) (T.yF R5.out HB0.out) (T.yF Q1.out HB0.out) (T.yF Q2.out HB0.out) (T.yF Q3.out HB0.out) (T.yF Q4.out HB0.out) (T.yF Q5.out HB0.out)).mono ?_;rintro e w1 ⟨rfl,hb⟩
 have HK1:=hide (HK0.out.below hb HK0.out.lt);have HJ1:=hide (HJ0.out.below hb HJ0.out.lt);have HB1:=hide (yJ HB0.out HB0.out.size hb);clear hb
 have k1:=HK1.out.cell;have j1:=HJ1.out.cell
 go_wp2_with fail
 refine(c_eqIB _ _ x.zZ _ (T.yF R6.out HB1.out) (T.yF Q6.out HB1.out)).mono ?_;rintro e w2 ⟨rfl,hb⟩
 have HK2:=hide (HK1.out.below hb HK1.out.lt);have HJ2:=hide (HJ1.out.below hb HJ1.out.lt);have HB2:=hide (yJ HB1.out HB1.out.size hb);clear hb
 have k2:=HK2.out.cell;have j2:=HJ2.out.cell
 go_wp2_with fail
 refine(c_eqIB _ _ x.zY _ (T.yF R7.out HB2.out) (T.yF Q7.out HB2.out)).mono ?_;rintro e w3 ⟨rfl,hb⟩
 have HK3:=hide (HK2.out.below hb HK2.out.lt);have HJ3:=hide (HJ2.out.below hb HJ2.out.lt);have HB3:=hide (yJ HB2.out HB2.out.size hb);clear hb
 have k3:=HK3.out.cell;have j3:=HJ3.out.cell
 go_wp2
 go_ret
 exact⟨rfl,HB3.out⟩
end Go.Proofs.YtoibekfhepnedaaGreat
