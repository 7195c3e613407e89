/- Contracts: nested data compared with itself. -/
import Derived.Test.YtoibekfhepnedaaGreatQAbExactSoundCache
import Derived.Test.YtoibekfhepnedaaGreatQAcExactSoundCache
import Derived.Test.YtoibekfhepnedaaGreatQAdExactSoundCache
import Derived.Deep.RegionHeld3
set_option linter.unusedVariables false
set_option linter.unusedSimpArgs false
set_option maxHeartbeats 1000000
set_option maxRecDepth 20000
namespace Go.Proofs.YtoibekfhepnedaaGreat
open Go.RowKit
theorem str_selfT (s:ByteArray):(s.toList == s.toList)=true:=by simp
theorem c_eqIB (v u:Value) (xs:List Int) (w:World) (hr:T.rd w (T.ints 2 xs) [v]) (ht:T.rd w (T.ints 2 xs) [u]):
  Calls Tryz.prog 63 #[v,u] w fun e w'=>e= .returned (.bool true)∧Below w.heap.size w w':=
 (c_eqI v u xs w (T.yR.1 hr) (T.yR.1 ht)).mono fun e w' ⟨h1,h2⟩=>⟨h1,h2.to_below _⟩
theorem c_eqInt64SS (v u:Value) (xs:List (List Int)) (w:World) (hr:T.rd w (T.sl 26 1 (xs.map (T.ints 2))) [v]) (ht:T.rd w (T.sl 26 1 (xs.map (T.ints 2))) [u]):
  Calls Tryz.prog 73 #[v,u] w fun e w'=>e= .returned (.bool true)∧Below w.heap.size w w':=by
 obtain⟨A1,cap1,rfl,hl1,hc1,hx1⟩:=T.yN hr
 obtain⟨A2,cap2,rfl,hl2,hc2,hx2⟩:=T.yN ht
 rw[List.length_map] at hl1 hl2 ⊢
 have HX1:=hide hx1;have HX2:=hide hx2;clear hx1 hx2 hr ht
 go_enter Tryz.func73,Tryz.ntmps73
 go_wp2
 go_loopw [5] (fun i wr=> ∃ k:Nat,k≤xs.length∧i= .int .i64 k∧Below w.heap.size w wr) (fun i _=>xs.length - (intOf i).toNat)
 case atStart=>exact⟨0,Nat.zero_le _,rfl,Below.refl _ _⟩
 case round=>
  obtain⟨k,hk,rfl,hb⟩:=hrel
  have HB:=hide hb;clear hb
  by_cases hlt:k<xs.length
  ·have hgk:=List.getElem?_eq_getElem hlt
   obtain⟨b1,o1,cs1,rfl,hbw1,hcs1,hcell1⟩:=HX1.out k (T.ints 2 xs[k]) (by rw[List.getElem?_map,hgk];rfl)
   obtain⟨v1,rfl⟩:=T.rd_one hcs1
   have d1:=(HB.out.cell hbw1).trans (hcell1 0 v1 rfl)
   rw[Nat.mul_one,Nat.add_zero] at d1
   have R1:=hide (T.yE hcs1 HB.out)
   have hq1:b1<wr.heap.size:=Nat.lt_of_lt_of_le hbw1 HB.out.size
   clear hcs1 hcell1
   obtain⟨b2,o2,cs2,rfl,hbw2,hcs2,hcell2⟩:=HX2.out k (T.ints 2 xs[k]) (by rw[List.getElem?_map,hgk];rfl)
   obtain⟨v2,rfl⟩:=T.rd_one hcs2
   have d2:=(HB.out.cell hbw2).trans (hcell2 0 v2 rfl)
   rw[Nat.mul_one,Nat.add_zero] at d2
   have R2:=hide (T.yE hcs2 HB.out)
   have hq2:b2<wr.heap.size:=Nat.lt_of_lt_of_le hbw2 HB.out.size
   clear hcs2 hcell2
   generalize xs[k]=x at *
   clear hgk
   obtain⟨sa1,sl1,sc1,rfl⟩:=T.yT R1.out
   obtain⟨sa2,sl2,sc2,rfl⟩:=T.yT R2.out
   go_wp2
   go_region_held3 (fun w'=>w'.cell? ⟨b1,o1+k,none⟩=some (.slice sa1 sl1 sc1)∧w'.cell? ⟨b2,o2+k,none⟩=some (.slice sa2 sl2 sc2)) (first|go_keep|(refine⟨(hb3.cell ?_).trans ?_,(hb3.cell ?_).trans ?_⟩<;>first|assumption|(simp[*];done)|(simp;omega))) (first|(go_at_call 63;refine(c_eqIB _ _ x _ (T.yE R1.out (by first|exact Below.refl _ _|exact Below.drew (Below.refl _ _)|exact below_drewN (Below.refl _ _) _)) (T.yE R2.out (by first|exact Below.refl _ _|exact Below.drew (Below.refl _ _)|exact below_drewN (Below.refl _ _) _))).mono ?_;rintro e w3 ⟨rfl,hb3⟩))
   have hb4:Below w.heap.size w w3:=yI HB.out HB.out.size (by first|exact hb3|exact undrew hb3|exact undrewN hb3)
   have HB4:=hide hb4;clear hb4 hb3
   go_wp2
   go_roundw
   case rel=>exact⟨k+1,by omega,by go_num,(by first|exact HB4.out|exact undrew HB4.out|exact Below.drew HB4.out|exact Below.drew (undrew HB4.out)|exact undrewN HB4.out|exact below_drewN HB4.out _)⟩
   case measure=>simp[intOf];omega
  ·go_wp2
   go_ret
   exact⟨rfl,HB.out⟩
theorem c_eqClip (x:GClip) (w:World):
  Calls Tryz.prog 251 #[.agg #[.int .i64 x.zT,.int .i64 x.zH,.int .i64 x.zG,.int .i64 x.zX,.int .i64 x.zR],.agg #[.int .i64 x.zT,.int .i64 x.zH,.int .i64 x.zG,.int .i64 x.zX,.int .i64 x.zR]] w fun e w'=>e= .returned (.bool true)∧Below w.heap.size w w':=by
 go_enter Tryz.func251,Tryz.ntmps251
 have HB0:=hide (show Below w.heap.size w ((w.alloc (.cells #[.int .i64 x.zT,.int .i64 x.zH,.int .i64 x.zG,.int .i64 x.zX,.int .i64 x.zR] 39)).alloc (.cells #[.int .i64 x.zT,.int .i64 x.zH,.int .i64 x.zG,.int .i64 x.zX,.int .i64 x.zR] 39)) from((Below.refl _ _).alloc (Nat.le_refl _) _).alloc (by first|(simp;done)|(simp;omega)|omega) _)
 have HK0:=hide ((Bk.born w 39 #[.int .i64 x.zT,.int .i64 x.zH,.int .i64 x.zG,.int .i64 x.zX,.int .i64 x.zR]).alloc (.cells #[.int .i64 x.zT,.int .i64 x.zH,.int .i64 x.zG,.int .i64 x.zX,.int .i64 x.zR] 39))
 have HJ0:=hide (Bk.born1' w (.cells #[.int .i64 x.zT,.int .i64 x.zH,.int .i64 x.zG,.int .i64 x.zX,.int .i64 x.zR] 39) 39 #[.int .i64 x.zT,.int .i64 x.zH,.int .i64 x.zG,.int .i64 x.zX,.int .i64 x.zR])
 go_wp2
 go_ret
 exact⟨rfl,HB0.out⟩
theorem c_eqClipS (v u:Value) (xs:List GClip) (w:World) (hr:T.rd w (T.sl 39 5 (xs.map GClip.t)) [v]) (ht:T.rd w (T.sl 39 5 (xs.map GClip.t)) [u]):
  Calls Tryz.prog 205 #[v,u] w fun e w'=>e= .returned (.bool true)∧Below w.heap.size w w':=by
 obtain⟨A1,cap1,rfl,hl1,hc1,hx1⟩:=T.yN hr
 obtain⟨A2,cap2,rfl,hl2,hc2,hx2⟩:=T.yN ht
 rw[List.length_map] at hl1 hl2 ⊢
 have HX1:=hide hx1;have HX2:=hide hx2;clear hx1 hx2 hr ht
 go_enter Tryz.func205,Tryz.ntmps205
 go_wp2
 go_loopw [5] (fun i wr=> ∃ k:Nat,k≤xs.length∧i= .int .i64 k∧Below w.heap.size w wr) (fun i _=>xs.length - (intOf i).toNat)
 case atStart=>exact⟨0,Nat.zero_le _,rfl,Below.refl _ _⟩
 case round=>
  obtain⟨k,hk,rfl,hb⟩:=hrel
  have HB:=hide hb;clear hb
  by_cases hlt:k<xs.length
  ·have hgk:=List.getElem?_eq_getElem hlt
   obtain⟨b1,o1,cs1,rfl,hbw1,hcs1,hcell1⟩:=HX1.out k (GClip.t xs[k]) (by rw[List.getElem?_map,hgk];rfl)
   obtain⟨b2,o2,cs2,rfl,hbw2,hcs2,hcell2⟩:=HX2.out k (GClip.t xs[k]) (by rw[List.getElem?_map,hgk];rfl)
   generalize xs[k]=x at *
   clear hgk
   obtain rfl:=GClip.yN (show T.rds _ _ _ by simpa only[GClip.t,T.rd] using hcs1)
   have d10:=(HB.out.cell hbw1).trans (hcell1 0 (.int .i64 x.zT) rfl)
   have d11:=(HB.out.cell hbw1).trans (hcell1 1 (.int .i64 x.zH) rfl)
   have d12:=(HB.out.cell hbw1).trans (hcell1 2 (.int .i64 x.zG) rfl)
   have d13:=(HB.out.cell hbw1).trans (hcell1 3 (.int .i64 x.zX) rfl)
   have d14:=(HB.out.cell hbw1).trans (hcell1 4 (.int .i64 x.zR) rfl)
   rw[show o1+(k * 5+0)=o1+k * 5 by omega] at d10
   rw[show o1+(k * 5+1)=o1+k * 5+1 by omega] at d11
   rw[show o1+(k * 5+2)=o1+k * 5+2 by omega] at d12
   rw[show o1+(k * 5+3)=o1+k * 5+3 by omega] at d13
   rw[show o1+(k * 5+4)=o1+k * 5+4 by omega] at d14
   clear hcs1 hcell1
   have hq1:b1<wr.heap.size:=Nat.lt_of_lt_of_le hbw1 HB.out.size
   obtain rfl:=GClip.yN (show T.rds _ _ _ by simpa only[GClip.t,T.rd] using hcs2)
   have d20:=(HB.out.cell hbw2).trans (hcell2 0 (.int .i64 x.zT) rfl)
   have d21:=(HB.out.cell hbw2).trans (hcell2 1 (.int .i64 x.zH) rfl)
   have d22:=(HB.out.cell hbw2).trans (hcell2 2 (.int .i64 x.zG) rfl)
   have d23:=(HB.out.cell hbw2).trans (hcell2 3 (.int .i64 x.zX) rfl)
   have d24:=(HB.out.cell hbw2).trans (hcell2 4 (.int .i64 x.zR) rfl)
   rw[show o2+(k * 5+0)=o2+k * 5 by omega] at d20
   rw[show o2+(k * 5+1)=o2+k * 5+1 by omega] at d21
   rw[show o2+(k * 5+2)=o2+k * 5+2 by omega] at d22
   rw[show o2+(k * 5+3)=o2+k * 5+3 by omega] at d23
   rw[show o2+(k * 5+4)=o2+k * 5+4 by omega] at d24
   clear hcs2 hcell2
   have hq2:b2<wr.heap.size:=Nat.lt_of_lt_of_le hbw2 HB.out.size
   go_wp2
   go_region_held3 (fun w'=>w'.cell? ⟨b1,o1+k * 5,none⟩=some (.int .i64 x.zT)∧w'.cell? ⟨b1,o1+k * 5+1,none⟩=some (.int .i64 x.zH)∧w'.cell? ⟨b1,o1+k * 5+2,none⟩=some (.int .i64 x.zG)∧w'.cell? ⟨b1,o1+k * 5+3,none⟩=some (.int .i64 x.zX)∧w'.cell? ⟨b1,o1+k * 5+4,none⟩=some (.int .i64 x.zR)∧w'.cell? ⟨b2,o2+k * 5,none⟩=some (.int .i64 x.zT)∧w'.cell? ⟨b2,o2+k * 5+1,none⟩=some (.int .i64 x.zH)∧w'.cell? ⟨b2,o2+k * 5+2,none⟩=some (.int .i64 x.zG)∧w'.cell? ⟨b2,o2+k * 5+3,none⟩=some (.int .i64 x.zX)∧w'.cell? ⟨b2,o2+k * 5+4,none⟩=some (.int .i64 x.zR)) (first|go_keep|(refine⟨(hb3.cell ?_).trans ?_,(hb3.cell ?_).trans ?_,(hb3.cell ?_).trans ?_,(hb3.cell ?_).trans ?_,(hb3.cell ?_).trans ?_,(hb3.cell ?_).trans ?_,(hb3.cell ?_).trans ?_,(hb3.cell ?_).trans ?_,(hb3.cell ?_).trans ?_,(hb3.cell ?_).trans ?_⟩<;>first|assumption|(simp[*];done)|(simp;omega))) (first|(go_at_call 251;refine(c_eqClip x _).mono ?_;rintro e w3 ⟨rfl,hb3⟩))
   have hb4:Below w.heap.size w w3:=yI HB.out HB.out.size (by first|exact hb3|exact undrew hb3|exact undrewN hb3)
   have HB4:=hide hb4;clear hb4 hb3
   go_wp2
   go_roundw
   case rel=>exact⟨k+1,by omega,by go_num,(by first|exact HB4.out|exact undrew HB4.out|exact Below.drew HB4.out|exact Below.drew (undrew HB4.out)|exact undrewN HB4.out|exact below_drewN HB4.out _)⟩
   case measure=>simp[intOf];omega
  ·go_wp2
   go_ret
   exact⟨rfl,HB.out⟩
theorem c_eqTrack (x:GTrack) (v0:Value) (u0:Value) (w:World) (r0:T.rd w (T.sl 39 5 (x.zQ.map GClip.t)) [v0]) (t0:T.rd w (T.sl 39 5 (x.zQ.map GClip.t)) [u0]):
  Calls Tryz.prog 140 #[.agg #[v0],.agg #[u0]] w fun e w'=>e= .returned (.bool true)∧Below w.heap.size w w':=by
 have R0:=hide r0;have Q0:=hide t0
 clear r0 t0
 go_enter Tryz.func140,Tryz.ntmps140
 have HB0:=hide (show Below w.heap.size w ((w.alloc (.cells #[v0] 96)).alloc (.cells #[u0] 96)) from((Below.refl _ _).alloc (Nat.le_refl _) _).alloc (by first|(simp;done)|(simp;omega)|omega) _)
 have HK0:=hide ((Bk.born w 96 #[v0]).alloc (.cells #[u0] 96))
 have HJ0:=hide (Bk.born1' w (.cells #[v0] 96) 96 #[u0])
 go_wp2_with fail
 refine(c_eqClipS _ _ x.zQ _ (T.yE R0.out HB0.out) (T.yE Q0.out HB0.out)).mono ?_;rintro e w1 ⟨rfl,hb⟩
 have HK1:=hide (HK0.out.below hb HK0.out.lt);have HJ1:=hide (HJ0.out.below hb HJ0.out.lt);have HB1:=hide (yI HB0.out HB0.out.size hb);clear hb
 have k1:=HK1.out.cell;have j1:=HJ1.out.cell
 go_wp2
 go_ret
 exact⟨rfl,HB1.out⟩
theorem c_eqTrackS (v u:Value) (xs:List GTrack) (w:World) (hr:T.rd w (T.sl 96 1 (xs.map GTrack.t)) [v]) (ht:T.rd w (T.sl 96 1 (xs.map GTrack.t)) [u]):
  Calls Tryz.prog 74 #[v,u] w fun e w'=>e= .returned (.bool true)∧Below w.heap.size w w':=by
 obtain⟨A1,cap1,rfl,hl1,hc1,hx1⟩:=T.yN hr
 obtain⟨A2,cap2,rfl,hl2,hc2,hx2⟩:=T.yN ht
 rw[List.length_map] at hl1 hl2 ⊢
 have HX1:=hide hx1;have HX2:=hide hx2;clear hx1 hx2 hr ht
 go_enter Tryz.func74,Tryz.ntmps74
 go_wp2
 go_loopw [5] (fun i wr=> ∃ k:Nat,k≤xs.length∧i= .int .i64 k∧Below w.heap.size w wr) (fun i _=>xs.length - (intOf i).toNat)
 case atStart=>exact⟨0,Nat.zero_le _,rfl,Below.refl _ _⟩
 case round=>
  obtain⟨k,hk,rfl,hb⟩:=hrel
  have HB:=hide hb;clear hb
  by_cases hlt:k<xs.length
  ·have hgk:=List.getElem?_eq_getElem hlt
   obtain⟨b1,o1,cs1,rfl,hbw1,hcs1,hcell1⟩:=HX1.out k (GTrack.t xs[k]) (by rw[List.getElem?_map,hgk];rfl)
   obtain⟨b2,o2,cs2,rfl,hbw2,hcs2,hcell2⟩:=HX2.out k (GTrack.t xs[k]) (by rw[List.getElem?_map,hgk];rfl)
   generalize xs[k]=x at *
   clear hgk
   obtain⟨v0,rfl,hR10⟩:=GTrack.yN (show T.rds _ _ _ by simpa only[GTrack.t,T.rd] using hcs1)
   have d10:=(HB.out.cell hbw1).trans (hcell1 0 (v0) rfl)
   rw[show o1+(k * 1+0)=o1+k by omega] at d10
   have R10:=hide (T.yE hR10 HB.out);clear hR10
   clear hcs1 hcell1
   have hq1:b1<wr.heap.size:=Nat.lt_of_lt_of_le hbw1 HB.out.size
   obtain⟨u0,rfl,hR20⟩:=GTrack.yN (show T.rds _ _ _ by simpa only[GTrack.t,T.rd] using hcs2)
   have d20:=(HB.out.cell hbw2).trans (hcell2 0 (u0) rfl)
   rw[show o2+(k * 1+0)=o2+k by omega] at d20
   have R20:=hide (T.yE hR20 HB.out);clear hR20
   clear hcs2 hcell2
   have hq2:b2<wr.heap.size:=Nat.lt_of_lt_of_le hbw2 HB.out.size
   obtain⟨va0,vl0,vc0,rfl⟩:=T.yT R10.out
   obtain⟨ua0,ul0,uc0,rfl⟩:=T.yT R20.out
   go_wp2
   go_region_held3 (fun w'=>w'.cell? ⟨b1,o1+k,none⟩=some (.slice va0 vl0 vc0)∧w'.cell? ⟨b2,o2+k,none⟩=some (.slice ua0 ul0 uc0)) (first|go_keep|(refine⟨(hb3.cell ?_).trans ?_,(hb3.cell ?_).trans ?_⟩<;>first|assumption|(simp[*];done)|(simp;omega))) (first|(go_at_call 140;refine(c_eqTrack x _ _ _ (T.yE R10.out (by first|exact Below.refl _ _|exact Below.drew (Below.refl _ _)|exact below_drewN (Below.refl _ _) _)) (T.yE R20.out (by first|exact Below.refl _ _|exact Below.drew (Below.refl _ _)|exact below_drewN (Below.refl _ _) _))).mono ?_;rintro e w3 ⟨rfl,hb3⟩))
   have hb4:Below w.heap.size w w3:=yI HB.out HB.out.size (by first|exact hb3|exact undrew hb3|exact undrewN hb3)
   have HB4:=hide hb4;clear hb4 hb3
   go_wp2
   go_roundw
   case rel=>exact⟨k+1,by omega,by go_num,(by first|exact HB4.out|exact undrew HB4.out|exact Below.drew HB4.out|exact Below.drew (undrew HB4.out)|exact undrewN HB4.out|exact below_drewN HB4.out _)⟩
   case measure=>simp[intOf];omega
  ·go_wp2
   go_ret
   exact⟨rfl,HB.out⟩
theorem c_eqNode (x:GNode) (v3:Value) (u3:Value) (w:World) (r3:T.rd w (T.ints 2 x.zH) [v3]) (t3:T.rd w (T.ints 2 x.zH) [u3]):
  Calls Tryz.prog 252 #[.agg #[.int .i64 x.zD,.int .i64 x.fA,.int .i64 x.fB,v3],.agg #[.int .i64 x.zD,.int .i64 x.fA,.int .i64 x.fB,u3]] w fun e w'=>e= .returned (.bool true)∧Below w.heap.size w w':=by
 have R3:=hide r3;have Q3:=hide t3
 clear r3 t3
 go_enter Tryz.func252,Tryz.ntmps252
 have HB0:=hide (show Below w.heap.size w ((w.alloc (.cells #[.int .i64 x.zD,.int .i64 x.fA,.int .i64 x.fB,v3] 167)).alloc (.cells #[.int .i64 x.zD,.int .i64 x.fA,.int .i64 x.fB,u3] 167)) from((Below.refl _ _).alloc (Nat.le_refl _) _).alloc (by first|(simp;done)|(simp;omega)|omega) _)
 have HK0:=hide ((Bk.born w 167 #[.int .i64 x.zD,.int .i64 x.fA,.int .i64 x.fB,v3]).alloc (.cells #[.int .i64 x.zD,.int .i64 x.fA,.int .i64 x.fB,u3] 167))
 have HJ0:=hide (Bk.born1' w (.cells #[.int .i64 x.zD,.int .i64 x.fA,.int .i64 x.fB,v3] 167) 167 #[.int .i64 x.zD,.int .i64 x.fA,.int .i64 x.fB,u3])
 go_wp2_with fail
 refine(c_eqIB _ _ x.zH _ (T.yE R3.out HB0.out) (T.yE Q3.out HB0.out)).mono ?_;rintro e w1 ⟨rfl,hb⟩
 have HK1:=hide (HK0.out.below hb HK0.out.lt);have HJ1:=hide (HJ0.out.below hb HJ0.out.lt);have HB1:=hide (yI HB0.out HB0.out.size hb);clear hb
 have k1:=HK1.out.cell;have j1:=HJ1.out.cell
 go_wp2
 go_ret
 exact⟨rfl,HB1.out⟩
theorem c_eqNodeS (v u:Value) (xs:List GNode) (w:World) (hr:T.rd w (T.sl 167 4 (xs.map GNode.t)) [v]) (ht:T.rd w (T.sl 167 4 (xs.map GNode.t)) [u]):
  Calls Tryz.prog 206 #[v,u] w fun e w'=>e= .returned (.bool true)∧Below w.heap.size w w':=by
 obtain⟨A1,cap1,rfl,hl1,hc1,hx1⟩:=T.yN hr
 obtain⟨A2,cap2,rfl,hl2,hc2,hx2⟩:=T.yN ht
 rw[List.length_map] at hl1 hl2 ⊢
 have HX1:=hide hx1;have HX2:=hide hx2;clear hx1 hx2 hr ht
 go_enter Tryz.func206,Tryz.ntmps206
 go_wp2
 go_loopw [5] (fun i wr=> ∃ k:Nat,k≤xs.length∧i= .int .i64 k∧Below w.heap.size w wr) (fun i _=>xs.length - (intOf i).toNat)
 case atStart=>exact⟨0,Nat.zero_le _,rfl,Below.refl _ _⟩
 case round=>
  obtain⟨k,hk,rfl,hb⟩:=hrel
  have HB:=hide hb;clear hb
  by_cases hlt:k<xs.length
  ·have hgk:=List.getElem?_eq_getElem hlt
   obtain⟨b1,o1,cs1,rfl,hbw1,hcs1,hcell1⟩:=HX1.out k (GNode.t xs[k]) (by rw[List.getElem?_map,hgk];rfl)
   obtain⟨b2,o2,cs2,rfl,hbw2,hcs2,hcell2⟩:=HX2.out k (GNode.t xs[k]) (by rw[List.getElem?_map,hgk];rfl)
   generalize xs[k]=x at *
   clear hgk
   obtain⟨v3,rfl,hR13⟩:=GNode.yN (show T.rds _ _ _ by simpa only[GNode.t,T.rd] using hcs1)
   have d10:=(HB.out.cell hbw1).trans (hcell1 0 (.int .i64 x.zD) rfl)
   have d11:=(HB.out.cell hbw1).trans (hcell1 1 (.int .i64 x.fA) rfl)
   have d12:=(HB.out.cell hbw1).trans (hcell1 2 (.int .i64 x.fB) rfl)
   have d13:=(HB.out.cell hbw1).trans (hcell1 3 (v3) rfl)
   rw[show o1+(k * 4+0)=o1+k * 4 by omega] at d10
   rw[show o1+(k * 4+1)=o1+k * 4+1 by omega] at d11
   rw[show o1+(k * 4+2)=o1+k * 4+2 by omega] at d12
   rw[show o1+(k * 4+3)=o1+k * 4+3 by omega] at d13
   have R13:=hide (T.yE hR13 HB.out);clear hR13
   clear hcs1 hcell1
   have hq1:b1<wr.heap.size:=Nat.lt_of_lt_of_le hbw1 HB.out.size
   obtain⟨u3,rfl,hR23⟩:=GNode.yN (show T.rds _ _ _ by simpa only[GNode.t,T.rd] using hcs2)
   have d20:=(HB.out.cell hbw2).trans (hcell2 0 (.int .i64 x.zD) rfl)
   have d21:=(HB.out.cell hbw2).trans (hcell2 1 (.int .i64 x.fA) rfl)
   have d22:=(HB.out.cell hbw2).trans (hcell2 2 (.int .i64 x.fB) rfl)
   have d23:=(HB.out.cell hbw2).trans (hcell2 3 (u3) rfl)
   rw[show o2+(k * 4+0)=o2+k * 4 by omega] at d20
   rw[show o2+(k * 4+1)=o2+k * 4+1 by omega] at d21
   rw[show o2+(k * 4+2)=o2+k * 4+2 by omega] at d22
   rw[show o2+(k * 4+3)=o2+k * 4+3 by omega] at d23
   have R23:=hide (T.yE hR23 HB.out);clear hR23
   clear hcs2 hcell2
   have hq2:b2<wr.heap.size:=Nat.lt_of_lt_of_le hbw2 HB.out.size
   obtain⟨va3,vl3,vc3,rfl⟩:=T.yT R13.out
   obtain⟨ua3,ul3,uc3,rfl⟩:=T.yT R23.out
   go_wp2
   go_region_held3 (fun w'=>w'.cell? ⟨b1,o1+k * 4,none⟩=some (.int .i64 x.zD)∧w'.cell? ⟨b1,o1+k * 4+1,none⟩=some (.int .i64 x.fA)∧w'.cell? ⟨b1,o1+k * 4+2,none⟩=some (.int .i64 x.fB)∧w'.cell? ⟨b1,o1+k * 4+3,none⟩=some (.slice va3 vl3 vc3)∧w'.cell? ⟨b2,o2+k * 4,none⟩=some (.int .i64 x.zD)∧w'.cell? ⟨b2,o2+k * 4+1,none⟩=some (.int .i64 x.fA)∧w'.cell? ⟨b2,o2+k * 4+2,none⟩=some (.int .i64 x.fB)∧w'.cell? ⟨b2,o2+k * 4+3,none⟩=some (.slice ua3 ul3 uc3)) (first|go_keep|(refine⟨(hb3.cell ?_).trans ?_,(hb3.cell ?_).trans ?_,(hb3.cell ?_).trans ?_,(hb3.cell ?_).trans ?_,(hb3.cell ?_).trans ?_,(hb3.cell ?_).trans ?_,(hb3.cell ?_).trans ?_,(hb3.cell ?_).trans ?_⟩<;>first|assumption|(simp[*];done)|(simp;omega))) (first|(go_at_call 252;refine(c_eqNode x _ _ _ (T.yE R13.out (by first|exact Below.refl _ _|exact Below.drew (Below.refl _ _)|exact below_drewN (Below.refl _ _) _)) (T.yE R23.out (by first|exact Below.refl _ _|exact Below.drew (Below.refl _ _)|exact below_drewN (Below.refl _ _) _))).mono ?_;rintro e w3 ⟨rfl,hb3⟩))
   have hb4:Below w.heap.size w w3:=yI HB.out HB.out.size (by first|exact hb3|exact undrew hb3|exact undrewN hb3)
   have HB4:=hide hb4;clear hb4 hb3
   go_wp2
   go_roundw
   case rel=>exact⟨k+1,by omega,by go_num,(by first|exact HB4.out|exact undrew HB4.out|exact Below.drew HB4.out|exact Below.drew (undrew HB4.out)|exact undrewN HB4.out|exact below_drewN HB4.out _)⟩
   case measure=>simp[intOf];omega
  ·go_wp2
   go_ret
   exact⟨rfl,HB.out⟩
theorem c_eqPatch (x:GPatch) (v1:Value) (v2:Value) (v3:Value) (u1:Value) (u2:Value) (u3:Value) (w:World) (r1:T.rd w (T.sl 26 1 (x.zM.map (T.ints 2))) [v1]) (r2:T.rd w (T.sl 167 4 (x.zB.map GNode.t)) [v2]) (r3:T.rd w (T.ints 2 x.zL) [v3]) (t1:T.rd w (T.sl 26 1 (x.zM.map (T.ints 2))) [u1]) (t2:T.rd w (T.sl 167 4 (x.zB.map GNode.t)) [u2]) (t3:T.rd w (T.ints 2 x.zL) [u3]):
  Calls Tryz.prog 141 #[.agg #[.int .i64 x.zK,v1,v2,v3],.agg #[.int .i64 x.zK,u1,u2,u3]] w fun e w'=>e= .returned (.bool true)∧Below w.heap.size w w':=by
 have R1:=hide r1;have Q1:=hide t1
 have R2:=hide r2;have Q2:=hide t2
 have R3:=hide r3;have Q3:=hide t3
 clear r1 t1 r2 t2 r3 t3
 go_enter Tryz.func141,Tryz.ntmps141
 have HB0:=hide (show Below w.heap.size w ((w.alloc (.cells #[.int .i64 x.zK,v1,v2,v3] 108)).alloc (.cells #[.int .i64 x.zK,u1,u2,u3] 108)) from((Below.refl _ _).alloc (Nat.le_refl _) _).alloc (by first|(simp;done)|(simp;omega)|omega) _)
 have HK0:=hide ((Bk.born w 108 #[.int .i64 x.zK,v1,v2,v3]).alloc (.cells #[.int .i64 x.zK,u1,u2,u3] 108))
 have HJ0:=hide (Bk.born1' w (.cells #[.int .i64 x.zK,v1,v2,v3] 108) 108 #[.int .i64 x.zK,u1,u2,u3])
 go_wp2_with fail
 refine(c_eqInt64SS _ _ x.zM _ (T.yE R1.out HB0.out) (T.yE Q1.out HB0.out)).mono ?_;rintro e w1 ⟨rfl,hb⟩
 have HK1:=hide (HK0.out.below hb HK0.out.lt);have HJ1:=hide (HJ0.out.below hb HJ0.out.lt);have HB1:=hide (yI HB0.out HB0.out.size hb);clear hb
 have k1:=HK1.out.cell;have j1:=HJ1.out.cell
 go_wp2_with fail
 refine(c_eqNodeS _ _ x.zB _ (T.yE R2.out HB1.out) (T.yE Q2.out HB1.out)).mono ?_;rintro e w2 ⟨rfl,hb⟩
 have HK2:=hide (HK1.out.below hb HK1.out.lt);have HJ2:=hide (HJ1.out.below hb HJ1.out.lt);have HB2:=hide (yI HB1.out HB1.out.size hb);clear hb
 have k2:=HK2.out.cell;have j2:=HJ2.out.cell
 go_wp2_with fail
 refine(c_eqIB _ _ x.zL _ (T.yE R3.out HB2.out) (T.yE Q3.out HB2.out)).mono ?_;rintro e w3 ⟨rfl,hb⟩
 have HK3:=hide (HK2.out.below hb HK2.out.lt);have HJ3:=hide (HJ2.out.below hb HJ2.out.lt);have HB3:=hide (yI HB2.out HB2.out.size hb);clear hb
 have k3:=HK3.out.cell;have j3:=HJ3.out.cell
 go_wp2
 go_ret
 exact⟨rfl,HB3.out⟩
theorem c_eqPatchS (v u:Value) (xs:List GPatch) (w:World) (hr:T.rd w (T.sl 108 4 (xs.map GPatch.t)) [v]) (ht:T.rd w (T.sl 108 4 (xs.map GPatch.t)) [u]):
  Calls Tryz.prog 75 #[v,u] w fun e w'=>e= .returned (.bool true)∧Below w.heap.size w w':=by
 obtain⟨A1,cap1,rfl,hl1,hc1,hx1⟩:=T.yN hr
 obtain⟨A2,cap2,rfl,hl2,hc2,hx2⟩:=T.yN ht
 rw[List.length_map] at hl1 hl2 ⊢
 have HX1:=hide hx1;have HX2:=hide hx2;clear hx1 hx2 hr ht
 go_enter Tryz.func75,Tryz.ntmps75
 go_wp2
 go_loopw [5] (fun i wr=> ∃ k:Nat,k≤xs.length∧i= .int .i64 k∧Below w.heap.size w wr) (fun i _=>xs.length - (intOf i).toNat)
 case atStart=>exact⟨0,Nat.zero_le _,rfl,Below.refl _ _⟩
 case round=>
  obtain⟨k,hk,rfl,hb⟩:=hrel
  have HB:=hide hb;clear hb
  by_cases hlt:k<xs.length
  ·have hgk:=List.getElem?_eq_getElem hlt
   obtain⟨b1,o1,cs1,rfl,hbw1,hcs1,hcell1⟩:=HX1.out k (GPatch.t xs[k]) (by rw[List.getElem?_map,hgk];rfl)
   obtain⟨b2,o2,cs2,rfl,hbw2,hcs2,hcell2⟩:=HX2.out k (GPatch.t xs[k]) (by rw[List.getElem?_map,hgk];rfl)
   generalize xs[k]=x at *
   clear hgk
   obtain⟨v1,v2,v3,rfl,hR11,hR12,hR13⟩:=GPatch.yN (show T.rds _ _ _ by simpa only[GPatch.t,T.rd] using hcs1)
   have d10:=(HB.out.cell hbw1).trans (hcell1 0 (.int .i64 x.zK) rfl)
   have d11:=(HB.out.cell hbw1).trans (hcell1 1 (v1) rfl)
   have d12:=(HB.out.cell hbw1).trans (hcell1 2 (v2) rfl)
   have d13:=(HB.out.cell hbw1).trans (hcell1 3 (v3) rfl)
   rw[show o1+(k * 4+0)=o1+k * 4 by omega] at d10
   rw[show o1+(k * 4+1)=o1+k * 4+1 by omega] at d11
   rw[show o1+(k * 4+2)=o1+k * 4+2 by omega] at d12
   rw[show o1+(k * 4+3)=o1+k * 4+3 by omega] at d13
   have R11:=hide (T.yE hR11 HB.out);clear hR11
   have R12:=hide (T.yE hR12 HB.out);clear hR12
   have R13:=hide (T.yE hR13 HB.out);clear hR13
   clear hcs1 hcell1
   have hq1:b1<wr.heap.size:=Nat.lt_of_lt_of_le hbw1 HB.out.size
   obtain⟨u1,u2,u3,rfl,hR21,hR22,hR23⟩:=GPatch.yN (show T.rds _ _ _ by simpa only[GPatch.t,T.rd] using hcs2)
   have d20:=(HB.out.cell hbw2).trans (hcell2 0 (.int .i64 x.zK) rfl)
   have d21:=(HB.out.cell hbw2).trans (hcell2 1 (u1) rfl)
   have d22:=(HB.out.cell hbw2).trans (hcell2 2 (u2) rfl)
   have d23:=(HB.out.cell hbw2).trans (hcell2 3 (u3) rfl)
   rw[show o2+(k * 4+0)=o2+k * 4 by omega] at d20
   rw[show o2+(k * 4+1)=o2+k * 4+1 by omega] at d21
   rw[show o2+(k * 4+2)=o2+k * 4+2 by omega] at d22
   rw[show o2+(k * 4+3)=o2+k * 4+3 by omega] at d23
   have R21:=hide (T.yE hR21 HB.out);clear hR21
   have R22:=hide (T.yE hR22 HB.out);clear hR22
   have R23:=hide (T.yE hR23 HB.out);clear hR23
   clear hcs2 hcell2
   have hq2:b2<wr.heap.size:=Nat.lt_of_lt_of_le hbw2 HB.out.size
   obtain⟨va1,vl1,vc1,rfl⟩:=T.yT R11.out
   obtain⟨va2,vl2,vc2,rfl⟩:=T.yT R12.out
   obtain⟨va3,vl3,vc3,rfl⟩:=T.yT R13.out
   obtain⟨ua1,ul1,uc1,rfl⟩:=T.yT R21.out
   obtain⟨ua2,ul2,uc2,rfl⟩:=T.yT R22.out
   obtain⟨ua3,ul3,uc3,rfl⟩:=T.yT R23.out
   go_wp2
   go_region_held3 (fun w'=>w'.cell? ⟨b1,o1+k * 4,none⟩=some (.int .i64 x.zK)∧w'.cell? ⟨b1,o1+k * 4+1,none⟩=some (.slice va1 vl1 vc1)∧w'.cell? ⟨b1,o1+k * 4+2,none⟩=some (.slice va2 vl2 vc2)∧w'.cell? ⟨b1,o1+k * 4+3,none⟩=some (.slice va3 vl3 vc3)∧w'.cell? ⟨b2,o2+k * 4,none⟩=some (.int .i64 x.zK)∧w'.cell? ⟨b2,o2+k * 4+1,none⟩=some (.slice ua1 ul1 uc1)∧w'.cell? ⟨b2,o2+k * 4+2,none⟩=some (.slice ua2 ul2 uc2)∧w'.cell? ⟨b2,o2+k * 4+3,none⟩=some (.slice ua3 ul3 uc3)) (first|go_keep|(refine⟨(hb3.cell ?_).trans ?_,(hb3.cell ?_).trans ?_,(hb3.cell ?_).trans ?_,(hb3.cell ?_).trans ?_,(hb3.cell ?_).trans ?_,(hb3.cell ?_).trans ?_,(hb3.cell ?_).trans ?_,(hb3.cell ?_).trans ?_⟩<;>first|assumption|(simp[*];done)|(simp;omega))) (first|(go_at_call 141;refine(c_eqPatch x _ _ _ _ _ _ _ (T.yE R11.out (by first|exact Below.refl _ _|exact Below.drew (Below.refl _ _)|exact below_drewN (Below.refl _ _) _)) (T.yE R12.out (by first|exact Below.refl _ _|exact Below.drew (Below.refl _ _)|exact below_drewN (Below.refl _ _) _)) (T.yE R13.out (by first|exact Below.refl _ _|exact Below.drew (Below.refl _ _)|exact below_drewN (Below.refl _ _) _)) (T.yE R21.out (by first|exact Below.refl _ _|exact Below.drew (Below.refl _ _)|exact below_drewN (Below.refl _ _) _)) (T.yE R22.out (by first|exact Below.refl _ _|exact Below.drew (Below.refl _ _)|exact below_drewN (Below.refl _ _) _)) (T.yE R23.out (by first|exact Below.refl _ _|exact Below.drew (Below.refl _ _)|exact below_drewN (Below.refl _ _) _))).mono ?_;rintro e w3 ⟨rfl,hb3⟩))
   have hb4:Below w.heap.size w w3:=yI HB.out HB.out.size (by first|exact hb3|exact undrew hb3|exact undrewN hb3)
   have HB4:=hide hb4;clear hb4 hb3
   go_wp2
   go_roundw
   case rel=>exact⟨k+1,by omega,by go_num,(by first|exact HB4.out|exact undrew HB4.out|exact Below.drew HB4.out|exact Below.drew (undrew HB4.out)|exact undrewN HB4.out|exact below_drewN HB4.out _)⟩
   case measure=>simp[intOf];omega
  ·go_wp2
   go_ret
   exact⟨rfl,HB.out⟩
theorem c_eqSend (x:GSend) (w:World):
  Calls Tryz.prog 276 #[.agg #[.int .i64 x.zV,.int .i64 x.zR],.agg #[.int .i64 x.zV,.int .i64 x.zR]] w fun e w'=>e= .returned (.bool true)∧Below w.heap.size w w':=by
 go_enter Tryz.func276,Tryz.ntmps276
 have HB0:=hide (show Below w.heap.size w ((w.alloc (.cells #[.int .i64 x.zV,.int .i64 x.zR] 98)).alloc (.cells #[.int .i64 x.zV,.int .i64 x.zR] 98)) from((Below.refl _ _).alloc (Nat.le_refl _) _).alloc (by first|(simp;done)|(simp;omega)|omega) _)
 have HK0:=hide ((Bk.born w 98 #[.int .i64 x.zV,.int .i64 x.zR]).alloc (.cells #[.int .i64 x.zV,.int .i64 x.zR] 98))
 have HJ0:=hide (Bk.born1' w (.cells #[.int .i64 x.zV,.int .i64 x.zR] 98) 98 #[.int .i64 x.zV,.int .i64 x.zR])
 go_wp2
 go_ret
 exact⟨rfl,HB0.out⟩
theorem c_eqSendS (v u:Value) (xs:List GSend) (w:World) (hr:T.rd w (T.sl 98 2 (xs.map GSend.t)) [v]) (ht:T.rd w (T.sl 98 2 (xs.map GSend.t)) [u]):
  Calls Tryz.prog 253 #[v,u] w fun e w'=>e= .returned (.bool true)∧Below w.heap.size w w':=by
 obtain⟨A1,cap1,rfl,hl1,hc1,hx1⟩:=T.yN hr
 obtain⟨A2,cap2,rfl,hl2,hc2,hx2⟩:=T.yN ht
 rw[List.length_map] at hl1 hl2 ⊢
 have HX1:=hide hx1;have HX2:=hide hx2;clear hx1 hx2 hr ht
 go_enter Tryz.func253,Tryz.ntmps253
 go_wp2
 go_loopw [5] (fun i wr=> ∃ k:Nat,k≤xs.length∧i= .int .i64 k∧Below w.heap.size w wr) (fun i _=>xs.length - (intOf i).toNat)
 case atStart=>exact⟨0,Nat.zero_le _,rfl,Below.refl _ _⟩
 case round=>
  obtain⟨k,hk,rfl,hb⟩:=hrel
  have HB:=hide hb;clear hb
  by_cases hlt:k<xs.length
  ·have hgk:=List.getElem?_eq_getElem hlt
   obtain⟨b1,o1,cs1,rfl,hbw1,hcs1,hcell1⟩:=HX1.out k (GSend.t xs[k]) (by rw[List.getElem?_map,hgk];rfl)
   obtain⟨b2,o2,cs2,rfl,hbw2,hcs2,hcell2⟩:=HX2.out k (GSend.t xs[k]) (by rw[List.getElem?_map,hgk];rfl)
   generalize xs[k]=x at *
   clear hgk
   obtain rfl:=GSend.yN (show T.rds _ _ _ by simpa only[GSend.t,T.rd] using hcs1)
   have d10:=(HB.out.cell hbw1).trans (hcell1 0 (.int .i64 x.zV) rfl)
   have d11:=(HB.out.cell hbw1).trans (hcell1 1 (.int .i64 x.zR) rfl)
   rw[show o1+(k * 2+0)=o1+k * 2 by omega] at d10
   rw[show o1+(k * 2+1)=o1+k * 2+1 by omega] at d11
   clear hcs1 hcell1
   have hq1:b1<wr.heap.size:=Nat.lt_of_lt_of_le hbw1 HB.out.size
   obtain rfl:=GSend.yN (show T.rds _ _ _ by simpa only[GSend.t,T.rd] using hcs2)
   have d20:=(HB.out.cell hbw2).trans (hcell2 0 (.int .i64 x.zV) rfl)
   have d21:=(HB.out.cell hbw2).trans (hcell2 1 (.int .i64 x.zR) rfl)
   rw[show o2+(k * 2+0)=o2+k * 2 by omega] at d20
   rw[show o2+(k * 2+1)=o2+k * 2+1 by omega] at d21
   clear hcs2 hcell2
   have hq2:b2<wr.heap.size:=Nat.lt_of_lt_of_le hbw2 HB.out.size
   go_wp2
   go_region_held3 (fun w'=>w'.cell? ⟨b1,o1+k * 2,none⟩=some (.int .i64 x.zV)∧w'.cell? ⟨b1,o1+k * 2+1,none⟩=some (.int .i64 x.zR)∧w'.cell? ⟨b2,o2+k * 2,none⟩=some (.int .i64 x.zV)∧w'.cell? ⟨b2,o2+k * 2+1,none⟩=some (.int .i64 x.zR)) (first|go_keep|(refine⟨(hb3.cell ?_).trans ?_,(hb3.cell ?_).trans ?_,(hb3.cell ?_).trans ?_,(hb3.cell ?_).trans ?_⟩<;>first|assumption|(simp[*];done)|(simp;omega))) (first|(go_at_call 276;refine(c_eqSend x _).mono ?_;rintro e w3 ⟨rfl,hb3⟩))
   have hb4:Below w.heap.size w w3:=yI HB.out HB.out.size (by first|exact hb3|exact undrew hb3|exact undrewN hb3)
   have HB4:=hide hb4;clear hb4 hb3
   go_wp2
   go_roundw
   case rel=>exact⟨k+1,by omega,by go_num,(by first|exact HB4.out|exact undrew HB4.out|exact Below.drew HB4.out|exact Below.drew (undrew HB4.out)|exact undrewN HB4.out|exact below_drewN HB4.out _)⟩
   case measure=>simp[intOf];omega
  ·go_wp2
   go_ret
   exact⟨rfl,HB.out⟩
theorem c_eqStrip (x:GStrip) (v2:Value) (u2:Value) (w:World) (r2:T.rd w (T.sl 98 2 (x.zJ.map GSend.t)) [v2]) (t2:T.rd w (T.sl 98 2 (x.zJ.map GSend.t)) [u2]):
  Calls Tryz.prog 207 #[.agg #[.string x.zU,.int .i64 x.zI,v2],.agg #[.string x.zU,.int .i64 x.zI,u2]] w fun e w'=>e= .returned (.bool true)∧Below w.heap.size w w':=by
 have R2:=hide r2;have Q2:=hide t2
 clear r2 t2
 have hse0:=str_selfT x.zU
 go_enter Tryz.func207,Tryz.ntmps207
 have HB0:=hide (show Below w.heap.size w ((w.alloc (.cells #[.string x.zU,.int .i64 x.zI,v2] 101)).alloc (.cells #[.string x.zU,.int .i64 x.zI,u2] 101)) from((Below.refl _ _).alloc (Nat.le_refl _) _).alloc (by first|(simp;done)|(simp;omega)|omega) _)
 have HK0:=hide ((Bk.born w 101 #[.string x.zU,.int .i64 x.zI,v2]).alloc (.cells #[.string x.zU,.int .i64 x.zI,u2] 101))
 have HJ0:=hide (Bk.born1' w (.cells #[.string x.zU,.int .i64 x.zI,v2] 101) 101 #[.string x.zU,.int .i64 x.zI,u2])
 go_wp2_with fail
 refine(c_eqSendS _ _ x.zJ _ (T.yE R2.out HB0.out) (T.yE Q2.out HB0.out)).mono ?_;rintro e w1 ⟨rfl,hb⟩
 have HK1:=hide (HK0.out.below hb HK0.out.lt);have HJ1:=hide (HJ0.out.below hb HJ0.out.lt);have HB1:=hide (yI HB0.out HB0.out.size hb);clear hb
 have k1:=HK1.out.cell;have j1:=HJ1.out.cell
 go_wp2
 go_ret
 exact⟨rfl,HB1.out⟩
theorem c_eqStripS (v u:Value) (xs:List GStrip) (w:World) (hr:T.rd w (T.sl 101 3 (xs.map GStrip.t)) [v]) (ht:T.rd w (T.sl 101 3 (xs.map GStrip.t)) [u]):
  Calls Tryz.prog 142 #[v,u] w fun e w'=>e= .returned (.bool true)∧Below w.heap.size w w':=by
 obtain⟨A1,cap1,rfl,hl1,hc1,hx1⟩:=T.yN hr
 obtain⟨A2,cap2,rfl,hl2,hc2,hx2⟩:=T.yN ht
 rw[List.length_map] at hl1 hl2 ⊢
 have HX1:=hide hx1;have HX2:=hide hx2;clear hx1 hx2 hr ht
 go_enter Tryz.func142,Tryz.ntmps142
 go_wp2
 go_loopw [5] (fun i wr=> ∃ k:Nat,k≤xs.length∧i= .int .i64 k∧Below w.heap.size w wr) (fun i _=>xs.length - (intOf i).toNat)
 case atStart=>exact⟨0,Nat.zero_le _,rfl,Below.refl _ _⟩
 case round=>
  obtain⟨k,hk,rfl,hb⟩:=hrel
  have HB:=hide hb;clear hb
  by_cases hlt:k<xs.length
  ·have hgk:=List.getElem?_eq_getElem hlt
   obtain⟨b1,o1,cs1,rfl,hbw1,hcs1,hcell1⟩:=HX1.out k (GStrip.t xs[k]) (by rw[List.getElem?_map,hgk];rfl)
   obtain⟨b2,o2,cs2,rfl,hbw2,hcs2,hcell2⟩:=HX2.out k (GStrip.t xs[k]) (by rw[List.getElem?_map,hgk];rfl)
   generalize xs[k]=x at *
   clear hgk
   obtain⟨v2,rfl,hR12⟩:=GStrip.yN (show T.rds _ _ _ by simpa only[GStrip.t,T.rd] using hcs1)
   have d10:=(HB.out.cell hbw1).trans (hcell1 0 (.string x.zU) rfl)
   have d11:=(HB.out.cell hbw1).trans (hcell1 1 (.int .i64 x.zI) rfl)
   have d12:=(HB.out.cell hbw1).trans (hcell1 2 (v2) rfl)
   rw[show o1+(k * 3+0)=o1+k * 3 by omega] at d10
   rw[show o1+(k * 3+1)=o1+k * 3+1 by omega] at d11
   rw[show o1+(k * 3+2)=o1+k * 3+2 by omega] at d12
   have R12:=hide (T.yE hR12 HB.out);clear hR12
   clear hcs1 hcell1
   have hq1:b1<wr.heap.size:=Nat.lt_of_lt_of_le hbw1 HB.out.size
   obtain⟨u2,rfl,hR22⟩:=GStrip.yN (show T.rds _ _ _ by simpa only[GStrip.t,T.rd] using hcs2)
   have d20:=(HB.out.cell hbw2).trans (hcell2 0 (.string x.zU) rfl)
   have d21:=(HB.out.cell hbw2).trans (hcell2 1 (.int .i64 x.zI) rfl)
   have d22:=(HB.out.cell hbw2).trans (hcell2 2 (u2) rfl)
   rw[show o2+(k * 3+0)=o2+k * 3 by omega] at d20
   rw[show o2+(k * 3+1)=o2+k * 3+1 by omega] at d21
   rw[show o2+(k * 3+2)=o2+k * 3+2 by omega] at d22
   have R22:=hide (T.yE hR22 HB.out);clear hR22
   clear hcs2 hcell2
   have hq2:b2<wr.heap.size:=Nat.lt_of_lt_of_le hbw2 HB.out.size
   obtain⟨va2,vl2,vc2,rfl⟩:=T.yT R12.out
   obtain⟨ua2,ul2,uc2,rfl⟩:=T.yT R22.out
   go_wp2
   go_region_held3 (fun w'=>w'.cell? ⟨b1,o1+k * 3,none⟩=some (.string x.zU)∧w'.cell? ⟨b1,o1+k * 3+1,none⟩=some (.int .i64 x.zI)∧w'.cell? ⟨b1,o1+k * 3+2,none⟩=some (.slice va2 vl2 vc2)∧w'.cell? ⟨b2,o2+k * 3,none⟩=some (.string x.zU)∧w'.cell? ⟨b2,o2+k * 3+1,none⟩=some (.int .i64 x.zI)∧w'.cell? ⟨b2,o2+k * 3+2,none⟩=some (.slice ua2 ul2 uc2)) (first|go_keep|(refine⟨(hb3.cell ?_).trans ?_,(hb3.cell ?_).trans ?_,(hb3.cell ?_).trans ?_,(hb3.cell ?_).trans ?_,(hb3.cell ?_).trans ?_,(hb3.cell ?_).trans ?_⟩<;>first|assumption|(simp[*];done)|(simp;omega))) (first|(go_at_call 207;refine(c_eqStrip x _ _ _ (T.yE R12.out (by first|exact Below.refl _ _|exact Below.drew (Below.refl _ _)|exact below_drewN (Below.refl _ _) _)) (T.yE R22.out (by first|exact Below.refl _ _|exact Below.drew (Below.refl _ _)|exact below_drewN (Below.refl _ _) _))).mono ?_;rintro e w3 ⟨rfl,hb3⟩))
   have hb4:Below w.heap.size w w3:=yI HB.out HB.out.size (by first|exact hb3|exact undrew hb3|exact undrewN hb3)
   have HB4:=hide hb4;clear hb4 hb3
   go_wp2
   go_roundw
   case rel=>exact⟨k+1,by omega,by go_num,(by first|exact HB4.out|exact undrew HB4.out|exact Below.drew HB4.out|exact Below.drew (undrew HB4.out)|exact undrewN HB4.out|exact below_drewN HB4.out _)⟩
   case measure=>simp[intOf];omega
  ·go_wp2
   go_ret
   exact⟨rfl,HB.out⟩
theorem c_eqMixer (x:GMixer) (v0:Value) (u0:Value) (w:World) (r0:T.rd w (T.sl 101 3 (x.zC.map GStrip.t)) [v0]) (t0:T.rd w (T.sl 101 3 (x.zC.map GStrip.t)) [u0]):
  Calls Tryz.prog 76 #[.agg #[v0],.agg #[u0]] w fun e w'=>e= .returned (.bool true)∧Below w.heap.size w w':=by
 have R0:=hide r0;have Q0:=hide t0
 clear r0 t0
 go_enter Tryz.func76,Tryz.ntmps76
 have HB0:=hide (show Below w.heap.size w ((w.alloc (.cells #[v0] 30)).alloc (.cells #[u0] 30)) from((Below.refl _ _).alloc (Nat.le_refl _) _).alloc (by first|(simp;done)|(simp;omega)|omega) _)
 have HK0:=hide ((Bk.born w 30 #[v0]).alloc (.cells #[u0] 30))
 have HJ0:=hide (Bk.born1' w (.cells #[v0] 30) 30 #[u0])
 go_wp2_with fail
 refine(c_eqStripS _ _ x.zC _ (T.yE R0.out HB0.out) (T.yE Q0.out HB0.out)).mono ?_;rintro e w1 ⟨rfl,hb⟩
 have HK1:=hide (HK0.out.below hb HK0.out.lt);have HJ1:=hide (HJ0.out.below hb HJ0.out.lt);have HB1:=hide (yI HB0.out HB0.out.size hb);clear hb
 have k1:=HK1.out.cell;have j1:=HJ1.out.cell
 go_wp2
 go_ret
 exact⟨rfl,HB1.out⟩
theorem c_eqSession (x:GSession) (v1:Value) (v2:Value) (v3:Value) (v4:Value) (v5:Value) (u1:Value) (u2:Value) (u3:Value) (u4:Value) (u5:Value) (w:World) (r1:T.rd w (T.sl 26 1 (x.zN.map (T.ints 2))) [v1]) (r2:T.rd w (T.sl 96 1 (x.zO.map GTrack.t)) [v2]) (r3:T.rd w (T.ints 2 x.zS) [v3]) (r4:T.rd w (T.sl 108 4 (x.zP.map GPatch.t)) [v4]) (r5:T.rd w (T.sl 101 3 (x.zF.zC.map GStrip.t)) [v5]) (t1:T.rd w (T.sl 26 1 (x.zN.map (T.ints 2))) [u1]) (t2:T.rd w (T.sl 96 1 (x.zO.map GTrack.t)) [u2]) (t3:T.rd w (T.ints 2 x.zS) [u3]) (t4:T.rd w (T.sl 108 4 (x.zP.map GPatch.t)) [u4]) (t5:T.rd w (T.sl 101 3 (x.zF.zC.map GStrip.t)) [u5]):
  Calls Tryz.prog 28 #[.agg #[.int .i64 x.zG,v1,v2,v3,v4,v5],.agg #[.int .i64 x.zG,u1,u2,u3,u4,u5]] w fun e w'=>e= .returned (.bool true)∧Below w.heap.size w w':=by
 have R1:=hide r1;have Q1:=hide t1
 have R2:=hide r2;have Q2:=hide t2
 have R3:=hide r3;have Q3:=hide t3
 have R4:=hide r4;have Q4:=hide t4
 have R5:=hide r5;have Q5:=hide t5
 clear r1 t1 r2 t2 r3 t3 r4 t4 r5 t5
 go_enter Tryz.func28,Tryz.ntmps28
 have HB0:=hide (show Below w.heap.size w ((w.alloc (.cells #[.int .i64 x.zG,v1,v2,v3,v4,v5] 32)).alloc (.cells #[.int .i64 x.zG,u1,u2,u3,u4,u5] 32)) from((Below.refl _ _).alloc (Nat.le_refl _) _).alloc (by first|(simp;done)|(simp;omega)|omega) _)
 have HK0:=hide ((Bk.born w 32 #[.int .i64 x.zG,v1,v2,v3,v4,v5]).alloc (.cells #[.int .i64 x.zG,u1,u2,u3,u4,u5] 32))
 have HJ0:=hide (Bk.born1' w (.cells #[.int .i64 x.zG,v1,v2,v3,v4,v5] 32) 32 #[.int .i64 x.zG,u1,u2,u3,u4,u5])
 go_wp2_with fail
 refine(c_eqInt64SS _ _ x.zN _ (T.yE R1.out HB0.out) (T.yE Q1.out HB0.out)).mono ?_;rintro e w1 ⟨rfl,hb⟩
 have HK1:=hide (HK0.out.below hb HK0.out.lt);have HJ1:=hide (HJ0.out.below hb HJ0.out.lt);have HB1:=hide (yI HB0.out HB0.out.size hb);clear hb
 have k1:=HK1.out.cell;have j1:=HJ1.out.cell
 go_wp2_with fail
 refine(c_eqTrackS _ _ x.zO _ (T.yE R2.out HB1.out) (T.yE Q2.out HB1.out)).mono ?_;rintro e w2 ⟨rfl,hb⟩
 have HK2:=hide (HK1.out.below hb HK1.out.lt);have HJ2:=hide (HJ1.out.below hb HJ1.out.lt);have HB2:=hide (yI HB1.out HB1.out.size hb);clear hb
 have k2:=HK2.out.cell;have j2:=HJ2.out.cell
 go_wp2_with fail
 refine(c_eqIB _ _ x.zS _ (T.yE R3.out HB2.out) (T.yE Q3.out HB2.out)).mono ?_;rintro e w3 ⟨rfl,hb⟩
 have HK3:=hide (HK2.out.below hb HK2.out.lt);have HJ3:=hide (HJ2.out.below hb HJ2.out.lt);have HB3:=hide (yI HB2.out HB2.out.size hb);clear hb
 have k3:=HK3.out.cell;have j3:=HJ3.out.cell
 go_wp2_with fail
 refine(c_eqPatchS _ _ x.zP _ (T.yE R4.out HB3.out) (T.yE Q4.out HB3.out)).mono ?_;rintro e w4 ⟨rfl,hb⟩
 have HK4:=hide (HK3.out.below hb HK3.out.lt);have HJ4:=hide (HJ3.out.below hb HJ3.out.lt);have HB4:=hide (yI HB3.out HB3.out.size hb);clear hb
 have k4:=HK4.out.cell;have j4:=HJ4.out.cell
 go_wp2_with fail
 refine(c_eqMixer x.zF v5 u5 _ (T.yE R5.out HB4.out) (T.yE Q5.out HB4.out)).mono ?_;rintro e w5 ⟨rfl,hb⟩
 have HK5:=hide (HK4.out.below hb HK4.out.lt);have HJ5:=hide (HJ4.out.below hb HJ4.out.lt);have HB5:=hide (yI HB4.out HB4.out.size hb);clear hb
 have k5:=HK5.out.cell;have j5:=HJ5.out.cell
 go_wp2
 go_ret
 exact⟨rfl,HB5.out⟩
theorem c_eqCache (x:GCache) (v1:Value) (v2:Value) (v3:Value) (v4:Value) (v5:Value) (v6:Value) (v7:Value) (u1:Value) (u2:Value) (u3:Value) (u4:Value) (u5:Value) (u6:Value) (u7:Value) (w:World) (r1:T.rd w (T.sl 26 1 (x.zE.zN.map (T.ints 2))) [v1]) (r2:T.rd w (T.sl 96 1 (x.zE.zO.map GTrack.t)) [v2]) (r3:T.rd w (T.ints 2 x.zE.zS) [v3]) (r4:T.rd w (T.sl 108 4 (x.zE.zP.map GPatch.t)) [v4]) (r5:T.rd w (T.sl 101 3 (x.zE.zF.zC.map GStrip.t)) [v5]) (r6:T.rd w (T.ints 2 x.zY) [v6]) (r7:T.rd w (T.ints 2 x.zW) [v7]) (t1:T.rd w (T.sl 26 1 (x.zE.zN.map (T.ints 2))) [u1]) (t2:T.rd w (T.sl 96 1 (x.zE.zO.map GTrack.t)) [u2]) (t3:T.rd w (T.ints 2 x.zE.zS) [u3]) (t4:T.rd w (T.sl 108 4 (x.zE.zP.map GPatch.t)) [u4]) (t5:T.rd w (T.sl 101 3 (x.zE.zF.zC.map GStrip.t)) [u5]) (t6:T.rd w (T.ints 2 x.zY) [u6]) (t7:T.rd w (T.ints 2 x.zW) [u7]):
  Calls Tryz.prog 23 #[.agg #[.int .i64 x.zE.zG,v1,v2,v3,v4,v5,v6,v7],.agg #[.int .i64 x.zE.zG,u1,u2,u3,u4,u5,u6,u7]] w fun e w'=>e= .returned (.bool true)∧Below w.heap.size w w':=by
 have R1:=hide r1;have Q1:=hide t1
 have R2:=hide r2;have Q2:=hide t2
 have R3:=hide r3;have Q3:=hide t3
 have R4:=hide r4;have Q4:=hide t4
 have R5:=hide r5;have Q5:=hide t5
 have R6:=hide r6;have Q6:=hide t6
 have R7:=hide r7;have Q7:=hide t7
 clear r1 t1 r2 t2 r3 t3 r4 t4 r5 t5 r6 t6 r7 t7
 go_enter Tryz.func23,Tryz.ntmps23
 have HB0:=hide (show Below w.heap.size w ((w.alloc (.cells #[.int .i64 x.zE.zG,v1,v2,v3,v4,v5,v6,v7] 65)).alloc (.cells #[.int .i64 x.zE.zG,u1,u2,u3,u4,u5,u6,u7] 65)) from((Below.refl _ _).alloc (Nat.le_refl _) _).alloc (by first|(simp;done)|(simp;omega)|omega) _)
 have HK0:=hide ((Bk.born w 65 #[.int .i64 x.zE.zG,v1,v2,v3,v4,v5,v6,v7]).alloc (.cells #[.int .i64 x.zE.zG,u1,u2,u3,u4,u5,u6,u7] 65))
 have HJ0:=hide (Bk.born1' w (.cells #[.int .i64 x.zE.zG,v1,v2,v3,v4,v5,v6,v7] 65) 65 #[.int .i64 x.zE.zG,u1,u2,u3,u4,u5,u6,u7])
 go_wp2_with fail
 refine(c_eqSession x.zE v1 v2 v3 v4 v5 u1 u2 u3 u4 u5 _ (T.yE R1.out HB0.out) (T.yE R2.out HB0.out) (T.yE R3.out HB0.out) (T.yE R4.out HB0.out) (T.yE R5.out HB0.out) (T.yE Q1.out HB0.out) (T.yE Q2.out HB0.out) (T.yE Q3.out HB0.out) (T.yE Q4.out HB0.out) (T.yE Q5.out HB0.out)).mono ?_;rintro e w1 ⟨rfl,hb⟩
 have HK1:=hide (HK0.out.below hb HK0.out.lt);have HJ1:=hide (HJ0.out.below hb HJ0.out.lt);have HB1:=hide (yI HB0.out HB0.out.size hb);clear hb
 have k1:=HK1.out.cell;have j1:=HJ1.out.cell
 go_wp2_with fail
 refine(c_eqIB _ _ x.zY _ (T.yE R6.out HB1.out) (T.yE Q6.out HB1.out)).mono ?_;rintro e w2 ⟨rfl,hb⟩
 have HK2:=hide (HK1.out.below hb HK1.out.lt);have HJ2:=hide (HJ1.out.below hb HJ1.out.lt);have HB2:=hide (yI HB1.out HB1.out.size hb);clear hb
 have k2:=HK2.out.cell;have j2:=HJ2.out.cell
 go_wp2_with fail
 refine(c_eqIB _ _ x.zW _ (T.yE R7.out HB2.out) (T.yE Q7.out HB2.out)).mono ?_;rintro e w3 ⟨rfl,hb⟩
 have HK3:=hide (HK2.out.below hb HK2.out.lt);have HJ3:=hide (HJ2.out.below hb HJ2.out.lt);have HB3:=hide (yI HB2.out HB2.out.size hb);clear hb
 have k3:=HK3.out.cell;have j3:=HJ3.out.cell
 go_wp2
 go_ret
 exact⟨rfl,HB3.out⟩
end Go.Proofs.YtoibekfhepnedaaGreat
