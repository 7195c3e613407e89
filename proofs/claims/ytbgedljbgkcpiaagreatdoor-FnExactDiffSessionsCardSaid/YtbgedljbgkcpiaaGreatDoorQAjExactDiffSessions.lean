/- Contracts: nested data compared with itself. -/
import Derived.Test.YtbgedljbgkcpiaaGreatDoorQAgExactDiffSessions
import Derived.Test.YtbgedljbgkcpiaaGreatDoorQAhExactDiffSessions
import Derived.Test.YtbgedljbgkcpiaaGreatDoorQAfExactDiffSessions
import Derived.Deep.RegionHeld3
set_option linter.unusedVariables false
set_option linter.unusedSimpArgs false
set_option maxHeartbeats 1000000
set_option maxRecDepth 20000
namespace Go.Proofs.YtbgedljbgkcpiaaGreatDoor
open Go.RowKit
theorem str_selfT (s:ByteArray):(s.toList == s.toList)=true:=by simp
theorem c_eqIB (v u:Value) (xs:List Int) (w:World) (hr:T.rd w (T.ints 2 xs) [v]) (ht:T.rd w (T.ints 2 xs) [u]):
  Calls Tryz.prog 35 #[v,u] w fun e w'=>e= .returned (.bool true)∧Below w.heap.size w w':=
 (c_eqI v u xs w (T.yQ.1 hr) (T.yQ.1 ht)).mono fun e w' ⟨h1,h2⟩=>⟨h1,h2.to_below _⟩
theorem c_eqInt64SS (v u:Value) (xs:List (List Int)) (w:World) (hr:T.rd w (T.sl 24 1 (xs.map (T.ints 2))) [v]) (ht:T.rd w (T.sl 24 1 (xs.map (T.ints 2))) [u]):
  Calls Tryz.prog 33 #[v,u] w fun e w'=>e= .returned (.bool true)∧Below w.heap.size w w':=by
 obtain⟨A1,cap1,rfl,hl1,hc1,hx1⟩:=T.yM hr
 obtain⟨A2,cap2,rfl,hl2,hc2,hx2⟩:=T.yM ht
 rw[List.length_map] at hl1 hl2 ⊢
 have HX1:=hide hx1;have HX2:=hide hx2;clear hx1 hx2 hr ht
 go_enter Tryz.func33,Tryz.ntmps33
 go_wp2
 go_loopw [5] (fun i wr=> ∃ k:Nat,k≤xs.length∧i= .int .i64 k∧Below w.heap.size w wr) (fun i _=>xs.length - (intOf i).toNat)
 case atStart=>exact⟨0,Nat.zero_le _,rfl,Below.refl _ _⟩
 case round=>
  obtain⟨k,hk,rfl,hb⟩:=hrel
  have HB:=hide hb;clear hb
  by_cases hlt:k<xs.length
  ·have hgk:=List.getElem?_eq_getElem hlt
   obtain⟨b1,o1,cs1,rfl,hbw1,hcs1,hcell1⟩:=HX1.out k (T.ints 2 xs[k]) (by rw[List.getElem?_map,hgk];rfl)
   obtain⟨v1,rfl⟩:=T.rd_one hcs1
   have d1:=(HB.out.cell hbw1).trans (hcell1 0 v1 rfl)
   rw[Nat.mul_one,Nat.add_zero] at d1
   have R1:=hide (T.yD hcs1 HB.out)
   have hq1:b1<wr.heap.size:=Nat.lt_of_lt_of_le hbw1 HB.out.size
   clear hcs1 hcell1
   obtain⟨b2,o2,cs2,rfl,hbw2,hcs2,hcell2⟩:=HX2.out k (T.ints 2 xs[k]) (by rw[List.getElem?_map,hgk];rfl)
   obtain⟨v2,rfl⟩:=T.rd_one hcs2
   have d2:=(HB.out.cell hbw2).trans (hcell2 0 v2 rfl)
   rw[Nat.mul_one,Nat.add_zero] at d2
   have R2:=hide (T.yD hcs2 HB.out)
   have hq2:b2<wr.heap.size:=Nat.lt_of_lt_of_le hbw2 HB.out.size
   clear hcs2 hcell2
   generalize xs[k]=x at *
   clear hgk
   obtain⟨sa1,sl1,sc1,rfl⟩:=T.yS R1.out
   obtain⟨sa2,sl2,sc2,rfl⟩:=T.yS R2.out
   go_wp2
   go_region_held3 (fun w'=>w'.cell? ⟨b1,o1+k,none⟩=some (.slice sa1 sl1 sc1)∧w'.cell? ⟨b2,o2+k,none⟩=some (.slice sa2 sl2 sc2)) (first|go_keep|(refine⟨(hb3.cell ?_).trans ?_,(hb3.cell ?_).trans ?_⟩<;>first|assumption|(simp[*];done)|(simp;omega))) (first|(go_at_call 35;refine(c_eqIB _ _ x _ (T.yD R1.out (by first|exact Below.refl _ _|exact Below.drew (Below.refl _ _)|exact below_drewN (Below.refl _ _) _)) (T.yD R2.out (by first|exact Below.refl _ _|exact Below.drew (Below.refl _ _)|exact below_drewN (Below.refl _ _) _))).mono ?_;rintro e w3 ⟨rfl,hb3⟩))
   have hb4:Below w.heap.size w w3:=yH HB.out HB.out.size (by first|exact hb3|exact undrew hb3|exact undrewN hb3)
   have HB4:=hide hb4;clear hb4 hb3
   go_wp2
   go_roundw
   case rel=>exact⟨k+1,by omega,by go_num,(by first|exact HB4.out|exact undrew HB4.out|exact Below.drew HB4.out|exact Below.drew (undrew HB4.out)|exact undrewN HB4.out|exact below_drewN HB4.out _)⟩
   case measure=>simp[intOf];omega
  ·go_wp2
   go_ret
   exact⟨rfl,HB.out⟩
theorem c_eqClip (x:GClip) (w:World):
  Calls Tryz.prog 156 #[.agg #[.int .i64 x.zS,.int .i64 x.zG,.int .i64 x.zE,.int .i64 x.yB,.int .i64 x.zQ],.agg #[.int .i64 x.zS,.int .i64 x.zG,.int .i64 x.zE,.int .i64 x.yB,.int .i64 x.zQ]] w fun e w'=>e= .returned (.bool true)∧Below w.heap.size w w':=by
 go_enter Tryz.func156,Tryz.ntmps156
 have HB0:=hide (show Below w.heap.size w ((w.alloc (.cells #[.int .i64 x.zS,.int .i64 x.zG,.int .i64 x.zE,.int .i64 x.yB,.int .i64 x.zQ] 107)).alloc (.cells #[.int .i64 x.zS,.int .i64 x.zG,.int .i64 x.zE,.int .i64 x.yB,.int .i64 x.zQ] 107)) from((Below.refl _ _).alloc (Nat.le_refl _) _).alloc (by first|(simp;done)|(simp;omega)|omega) _)
 have HK0:=hide ((Bk.born w 107 #[.int .i64 x.zS,.int .i64 x.zG,.int .i64 x.zE,.int .i64 x.yB,.int .i64 x.zQ]).alloc (.cells #[.int .i64 x.zS,.int .i64 x.zG,.int .i64 x.zE,.int .i64 x.yB,.int .i64 x.zQ] 107))
 have HJ0:=hide (Bk.born1' w (.cells #[.int .i64 x.zS,.int .i64 x.zG,.int .i64 x.zE,.int .i64 x.yB,.int .i64 x.zQ] 107) 107 #[.int .i64 x.zS,.int .i64 x.zG,.int .i64 x.zE,.int .i64 x.yB,.int .i64 x.zQ])
 go_wp2
 go_ret
 exact⟨rfl,HB0.out⟩
theorem c_eqClipS (v u:Value) (xs:List GClip) (w:World) (hr:T.rd w (T.sl 107 5 (xs.map GClip.t)) [v]) (ht:T.rd w (T.sl 107 5 (xs.map GClip.t)) [u]):
  Calls Tryz.prog 120 #[v,u] w fun e w'=>e= .returned (.bool true)∧Below w.heap.size w w':=by
 obtain⟨A1,cap1,rfl,hl1,hc1,hx1⟩:=T.yM hr
 obtain⟨A2,cap2,rfl,hl2,hc2,hx2⟩:=T.yM ht
 rw[List.length_map] at hl1 hl2 ⊢
 have HX1:=hide hx1;have HX2:=hide hx2;clear hx1 hx2 hr ht
 go_enter Tryz.func120,Tryz.ntmps120
 go_wp2
 go_loopw [5] (fun i wr=> ∃ k:Nat,k≤xs.length∧i= .int .i64 k∧Below w.heap.size w wr) (fun i _=>xs.length - (intOf i).toNat)
 case atStart=>exact⟨0,Nat.zero_le _,rfl,Below.refl _ _⟩
 case round=>
  obtain⟨k,hk,rfl,hb⟩:=hrel
  have HB:=hide hb;clear hb
  by_cases hlt:k<xs.length
  ·have hgk:=List.getElem?_eq_getElem hlt
   obtain⟨b1,o1,cs1,rfl,hbw1,hcs1,hcell1⟩:=HX1.out k (GClip.t xs[k]) (by rw[List.getElem?_map,hgk];rfl)
   obtain⟨b2,o2,cs2,rfl,hbw2,hcs2,hcell2⟩:=HX2.out k (GClip.t xs[k]) (by rw[List.getElem?_map,hgk];rfl)
   generalize xs[k]=x at *
   clear hgk
   obtain rfl:=GClip.yM (show T.rds _ _ _ by simpa only[GClip.t,T.rd] using hcs1)
   have d10:=(HB.out.cell hbw1).trans (hcell1 0 (.int .i64 x.zS) rfl)
   have d11:=(HB.out.cell hbw1).trans (hcell1 1 (.int .i64 x.zG) rfl)
   have d12:=(HB.out.cell hbw1).trans (hcell1 2 (.int .i64 x.zE) rfl)
   have d13:=(HB.out.cell hbw1).trans (hcell1 3 (.int .i64 x.yB) rfl)
   have d14:=(HB.out.cell hbw1).trans (hcell1 4 (.int .i64 x.zQ) rfl)
   rw[show o1+(k * 5+0)=o1+k * 5 by omega] at d10
   rw[show o1+(k * 5+1)=o1+k * 5+1 by omega] at d11
   rw[show o1+(k * 5+2)=o1+k * 5+2 by omega] at d12
   rw[show o1+(k * 5+3)=o1+k * 5+3 by omega] at d13
   rw[show o1+(k * 5+4)=o1+k * 5+4 by omega] at d14
   clear hcs1 hcell1
   have hq1:b1<wr.heap.size:=Nat.lt_of_lt_of_le hbw1 HB.out.size
   obtain rfl:=GClip.yM (show T.rds _ _ _ by simpa only[GClip.t,T.rd] using hcs2)
   have d20:=(HB.out.cell hbw2).trans (hcell2 0 (.int .i64 x.zS) rfl)
   have d21:=(HB.out.cell hbw2).trans (hcell2 1 (.int .i64 x.zG) rfl)
   have d22:=(HB.out.cell hbw2).trans (hcell2 2 (.int .i64 x.zE) rfl)
   have d23:=(HB.out.cell hbw2).trans (hcell2 3 (.int .i64 x.yB) rfl)
   have d24:=(HB.out.cell hbw2).trans (hcell2 4 (.int .i64 x.zQ) rfl)
   rw[show o2+(k * 5+0)=o2+k * 5 by omega] at d20
   rw[show o2+(k * 5+1)=o2+k * 5+1 by omega] at d21
   rw[show o2+(k * 5+2)=o2+k * 5+2 by omega] at d22
   rw[show o2+(k * 5+3)=o2+k * 5+3 by omega] at d23
   rw[show o2+(k * 5+4)=o2+k * 5+4 by omega] at d24
   clear hcs2 hcell2
   have hq2:b2<wr.heap.size:=Nat.lt_of_lt_of_le hbw2 HB.out.size
   go_wp2
   go_region_held3 (fun w'=>w'.cell? ⟨b1,o1+k * 5,none⟩=some (.int .i64 x.zS)∧w'.cell? ⟨b1,o1+k * 5+1,none⟩=some (.int .i64 x.zG)∧w'.cell? ⟨b1,o1+k * 5+2,none⟩=some (.int .i64 x.zE)∧w'.cell? ⟨b1,o1+k * 5+3,none⟩=some (.int .i64 x.yB)∧w'.cell? ⟨b1,o1+k * 5+4,none⟩=some (.int .i64 x.zQ)∧w'.cell? ⟨b2,o2+k * 5,none⟩=some (.int .i64 x.zS)∧w'.cell? ⟨b2,o2+k * 5+1,none⟩=some (.int .i64 x.zG)∧w'.cell? ⟨b2,o2+k * 5+2,none⟩=some (.int .i64 x.zE)∧w'.cell? ⟨b2,o2+k * 5+3,none⟩=some (.int .i64 x.yB)∧w'.cell? ⟨b2,o2+k * 5+4,none⟩=some (.int .i64 x.zQ)) (first|go_keep|(refine⟨(hb3.cell ?_).trans ?_,(hb3.cell ?_).trans ?_,(hb3.cell ?_).trans ?_,(hb3.cell ?_).trans ?_,(hb3.cell ?_).trans ?_,(hb3.cell ?_).trans ?_,(hb3.cell ?_).trans ?_,(hb3.cell ?_).trans ?_,(hb3.cell ?_).trans ?_,(hb3.cell ?_).trans ?_⟩<;>first|assumption|(simp[*];done)|(simp;omega))) (first|(go_at_call 156;refine(c_eqClip x _).mono ?_;rintro e w3 ⟨rfl,hb3⟩))
   have hb4:Below w.heap.size w w3:=yH HB.out HB.out.size (by first|exact hb3|exact undrew hb3|exact undrewN hb3)
   have HB4:=hide hb4;clear hb4 hb3
   go_wp2
   go_roundw
   case rel=>exact⟨k+1,by omega,by go_num,(by first|exact HB4.out|exact undrew HB4.out|exact Below.drew HB4.out|exact Below.drew (undrew HB4.out)|exact undrewN HB4.out|exact below_drewN HB4.out _)⟩
   case measure=>simp[intOf];omega
  ·go_wp2
   go_ret
   exact⟨rfl,HB.out⟩
theorem c_eqTrack (x:GTrack) (v0:Value) (u0:Value) (w:World) (r0:T.rd w (T.sl 107 5 (x.zR.map GClip.t)) [v0]) (t0:T.rd w (T.sl 107 5 (x.zR.map GClip.t)) [u0]):
  Calls Tryz.prog 81 #[.agg #[v0],.agg #[u0]] w fun e w'=>e= .returned (.bool true)∧Below w.heap.size w w':=by
 have R0:=hide r0;have Q0:=hide t0
 clear r0 t0
 go_enter Tryz.func81,Tryz.ntmps81
 have HB0:=hide (show Below w.heap.size w ((w.alloc (.cells #[v0] 98)).alloc (.cells #[u0] 98)) from((Below.refl _ _).alloc (Nat.le_refl _) _).alloc (by first|(simp;done)|(simp;omega)|omega) _)
 have HK0:=hide ((Bk.born w 98 #[v0]).alloc (.cells #[u0] 98))
 have HJ0:=hide (Bk.born1' w (.cells #[v0] 98) 98 #[u0])
 go_wp2_with fail
 refine(c_eqClipS _ _ x.zR _ (T.yD R0.out HB0.out) (T.yD Q0.out HB0.out)).mono ?_;rintro e w1 ⟨rfl,hb⟩
 have HK1:=hide (HK0.out.below hb HK0.out.lt);have HJ1:=hide (HJ0.out.below hb HJ0.out.lt);have HB1:=hide (yH HB0.out HB0.out.size hb);clear hb
 have k1:=HK1.out.cell;have j1:=HJ1.out.cell
 go_wp2
 go_ret
 exact⟨rfl,HB1.out⟩
theorem c_eqTrackS (v u:Value) (xs:List GTrack) (w:World) (hr:T.rd w (T.sl 98 1 (xs.map GTrack.t)) [v]) (ht:T.rd w (T.sl 98 1 (xs.map GTrack.t)) [u]):
  Calls Tryz.prog 34 #[v,u] w fun e w'=>e= .returned (.bool true)∧Below w.heap.size w w':=by
 obtain⟨A1,cap1,rfl,hl1,hc1,hx1⟩:=T.yM hr
 obtain⟨A2,cap2,rfl,hl2,hc2,hx2⟩:=T.yM ht
 rw[List.length_map] at hl1 hl2 ⊢
 have HX1:=hide hx1;have HX2:=hide hx2;clear hx1 hx2 hr ht
 go_enter Tryz.func34,Tryz.ntmps34
 go_wp2
 go_loopw [5] (fun i wr=> ∃ k:Nat,k≤xs.length∧i= .int .i64 k∧Below w.heap.size w wr) (fun i _=>xs.length - (intOf i).toNat)
 case atStart=>exact⟨0,Nat.zero_le _,rfl,Below.refl _ _⟩
 case round=>
  obtain⟨k,hk,rfl,hb⟩:=hrel
  have HB:=hide hb;clear hb
  by_cases hlt:k<xs.length
  ·have hgk:=List.getElem?_eq_getElem hlt
   obtain⟨b1,o1,cs1,rfl,hbw1,hcs1,hcell1⟩:=HX1.out k (GTrack.t xs[k]) (by rw[List.getElem?_map,hgk];rfl)
   obtain⟨b2,o2,cs2,rfl,hbw2,hcs2,hcell2⟩:=HX2.out k (GTrack.t xs[k]) (by rw[List.getElem?_map,hgk];rfl)
   generalize xs[k]=x at *
   clear hgk
   obtain⟨v0,rfl,hR10⟩:=GTrack.yM (show T.rds _ _ _ by simpa only[GTrack.t,T.rd] using hcs1)
   have d10:=(HB.out.cell hbw1).trans (hcell1 0 (v0) rfl)
   rw[show o1+(k * 1+0)=o1+k by omega] at d10
   have R10:=hide (T.yD hR10 HB.out);clear hR10
   clear hcs1 hcell1
   have hq1:b1<wr.heap.size:=Nat.lt_of_lt_of_le hbw1 HB.out.size
   obtain⟨u0,rfl,hR20⟩:=GTrack.yM (show T.rds _ _ _ by simpa only[GTrack.t,T.rd] using hcs2)
   have d20:=(HB.out.cell hbw2).trans (hcell2 0 (u0) rfl)
   rw[show o2+(k * 1+0)=o2+k by omega] at d20
   have R20:=hide (T.yD hR20 HB.out);clear hR20
   clear hcs2 hcell2
   have hq2:b2<wr.heap.size:=Nat.lt_of_lt_of_le hbw2 HB.out.size
   obtain⟨va0,vl0,vc0,rfl⟩:=T.yS R10.out
   obtain⟨ua0,ul0,uc0,rfl⟩:=T.yS R20.out
   go_wp2
   go_region_held3 (fun w'=>w'.cell? ⟨b1,o1+k,none⟩=some (.slice va0 vl0 vc0)∧w'.cell? ⟨b2,o2+k,none⟩=some (.slice ua0 ul0 uc0)) (first|go_keep|(refine⟨(hb3.cell ?_).trans ?_,(hb3.cell ?_).trans ?_⟩<;>first|assumption|(simp[*];done)|(simp;omega))) (first|(go_at_call 81;refine(c_eqTrack x _ _ _ (T.yD R10.out (by first|exact Below.refl _ _|exact Below.drew (Below.refl _ _)|exact below_drewN (Below.refl _ _) _)) (T.yD R20.out (by first|exact Below.refl _ _|exact Below.drew (Below.refl _ _)|exact below_drewN (Below.refl _ _) _))).mono ?_;rintro e w3 ⟨rfl,hb3⟩))
   have hb4:Below w.heap.size w w3:=yH HB.out HB.out.size (by first|exact hb3|exact undrew hb3|exact undrewN hb3)
   have HB4:=hide hb4;clear hb4 hb3
   go_wp2
   go_roundw
   case rel=>exact⟨k+1,by omega,by go_num,(by first|exact HB4.out|exact undrew HB4.out|exact Below.drew HB4.out|exact Below.drew (undrew HB4.out)|exact undrewN HB4.out|exact below_drewN HB4.out _)⟩
   case measure=>simp[intOf];omega
  ·go_wp2
   go_ret
   exact⟨rfl,HB.out⟩
theorem c_eqNode (x:GNode) (v3:Value) (u3:Value) (w:World) (r3:T.rd w (T.ints 2 x.zG) [v3]) (t3:T.rd w (T.ints 2 x.zG) [u3]):
  Calls Tryz.prog 157 #[.agg #[.int .i64 x.zC,.int .i64 x.fA,.int .i64 x.fB,v3],.agg #[.int .i64 x.zC,.int .i64 x.fA,.int .i64 x.fB,u3]] w fun e w'=>e= .returned (.bool true)∧Below w.heap.size w w':=by
 have R3:=hide r3;have Q3:=hide t3
 clear r3 t3
 go_enter Tryz.func157,Tryz.ntmps157
 have HB0:=hide (show Below w.heap.size w ((w.alloc (.cells #[.int .i64 x.zC,.int .i64 x.fA,.int .i64 x.fB,v3] 160)).alloc (.cells #[.int .i64 x.zC,.int .i64 x.fA,.int .i64 x.fB,u3] 160)) from((Below.refl _ _).alloc (Nat.le_refl _) _).alloc (by first|(simp;done)|(simp;omega)|omega) _)
 have HK0:=hide ((Bk.born w 160 #[.int .i64 x.zC,.int .i64 x.fA,.int .i64 x.fB,v3]).alloc (.cells #[.int .i64 x.zC,.int .i64 x.fA,.int .i64 x.fB,u3] 160))
 have HJ0:=hide (Bk.born1' w (.cells #[.int .i64 x.zC,.int .i64 x.fA,.int .i64 x.fB,v3] 160) 160 #[.int .i64 x.zC,.int .i64 x.fA,.int .i64 x.fB,u3])
 go_wp2_with fail
 refine(c_eqIB _ _ x.zG _ (T.yD R3.out HB0.out) (T.yD Q3.out HB0.out)).mono ?_;rintro e w1 ⟨rfl,hb⟩
 have HK1:=hide (HK0.out.below hb HK0.out.lt);have HJ1:=hide (HJ0.out.below hb HJ0.out.lt);have HB1:=hide (yH HB0.out HB0.out.size hb);clear hb
 have k1:=HK1.out.cell;have j1:=HJ1.out.cell
 go_wp2
 go_ret
 exact⟨rfl,HB1.out⟩
theorem c_eqNodeS (v u:Value) (xs:List GNode) (w:World) (hr:T.rd w (T.sl 160 4 (xs.map GNode.t)) [v]) (ht:T.rd w (T.sl 160 4 (xs.map GNode.t)) [u]):
  Calls Tryz.prog 121 #[v,u] w fun e w'=>e= .returned (.bool true)∧Below w.heap.size w w':=by
 obtain⟨A1,cap1,rfl,hl1,hc1,hx1⟩:=T.yM hr
 obtain⟨A2,cap2,rfl,hl2,hc2,hx2⟩:=T.yM ht
 rw[List.length_map] at hl1 hl2 ⊢
 have HX1:=hide hx1;have HX2:=hide hx2;clear hx1 hx2 hr ht
 go_enter Tryz.func121,Tryz.ntmps121
 go_wp2
 go_loopw [5] (fun i wr=> ∃ k:Nat,k≤xs.length∧i= .int .i64 k∧Below w.heap.size w wr) (fun i _=>xs.length - (intOf i).toNat)
 case atStart=>exact⟨0,Nat.zero_le _,rfl,Below.refl _ _⟩
 case round=>
  obtain⟨k,hk,rfl,hb⟩:=hrel
  have HB:=hide hb;clear hb
  by_cases hlt:k<xs.length
  ·have hgk:=List.getElem?_eq_getElem hlt
   obtain⟨b1,o1,cs1,rfl,hbw1,hcs1,hcell1⟩:=HX1.out k (GNode.t xs[k]) (by rw[List.getElem?_map,hgk];rfl)
   obtain⟨b2,o2,cs2,rfl,hbw2,hcs2,hcell2⟩:=HX2.out k (GNode.t xs[k]) (by rw[List.getElem?_map,hgk];rfl)
   generalize xs[k]=x at *
   clear hgk
   obtain⟨v3,rfl,hR13⟩:=GNode.yM (show T.rds _ _ _ by simpa only[GNode.t,T.rd] using hcs1)
   have d10:=(HB.out.cell hbw1).trans (hcell1 0 (.int .i64 x.zC) rfl)
   have d11:=(HB.out.cell hbw1).trans (hcell1 1 (.int .i64 x.fA) rfl)
   have d12:=(HB.out.cell hbw1).trans (hcell1 2 (.int .i64 x.fB) rfl)
   have d13:=(HB.out.cell hbw1).trans (hcell1 3 (v3) rfl)
   rw[show o1+(k * 4+0)=o1+k * 4 by omega] at d10
   rw[show o1+(k * 4+1)=o1+k * 4+1 by omega] at d11
   rw[show o1+(k * 4+2)=o1+k * 4+2 by omega] at d12
   rw[show o1+(k * 4+3)=o1+k * 4+3 by omega] at d13
   have R13:=hide (T.yD hR13 HB.out);clear hR13
   clear hcs1 hcell1
   have hq1:b1<wr.heap.size:=Nat.lt_of_lt_of_le hbw1 HB.out.size
   obtain⟨u3,rfl,hR23⟩:=GNode.yM (show T.rds _ _ _ by simpa only[GNode.t,T.rd] using hcs2)
   have d20:=(HB.out.cell hbw2).trans (hcell2 0 (.int .i64 x.zC) rfl)
   have d21:=(HB.out.cell hbw2).trans (hcell2 1 (.int .i64 x.fA) rfl)
   have d22:=(HB.out.cell hbw2).trans (hcell2 2 (.int .i64 x.fB) rfl)
   have d23:=(HB.out.cell hbw2).trans (hcell2 3 (u3) rfl)
   rw[show o2+(k * 4+0)=o2+k * 4 by omega] at d20
   rw[show o2+(k * 4+1)=o2+k * 4+1 by omega] at d21
   rw[show o2+(k * 4+2)=o2+k * 4+2 by omega] at d22
   rw[show o2+(k * 4+3)=o2+k * 4+3 by omega] at d23
   have R23:=hide (T.yD hR23 HB.out);clear hR23
   clear hcs2 hcell2
   have hq2:b2<wr.heap.size:=Nat.lt_of_lt_of_le hbw2 HB.out.size
   obtain⟨va3,vl3,vc3,rfl⟩:=T.yS R13.out
   obtain⟨ua3,ul3,uc3,rfl⟩:=T.yS R23.out
   go_wp2
   go_region_held3 (fun w'=>w'.cell? ⟨b1,o1+k * 4,none⟩=some (.int .i64 x.zC)∧w'.cell? ⟨b1,o1+k * 4+1,none⟩=some (.int .i64 x.fA)∧w'.cell? ⟨b1,o1+k * 4+2,none⟩=some (.int .i64 x.fB)∧w'.cell? ⟨b1,o1+k * 4+3,none⟩=some (.slice va3 vl3 vc3)∧w'.cell? ⟨b2,o2+k * 4,none⟩=some (.int .i64 x.zC)∧w'.cell? ⟨b2,o2+k * 4+1,none⟩=some (.int .i64 x.fA)∧w'.cell? ⟨b2,o2+k * 4+2,none⟩=some (.int .i64 x.fB)∧w'.cell? ⟨b2,o2+k * 4+3,none⟩=some (.slice ua3 ul3 uc3)) (first|go_keep|(refine⟨(hb3.cell ?_).trans ?_,(hb3.cell ?_).trans ?_,(hb3.cell ?_).trans ?_,(hb3.cell ?_).trans ?_,(hb3.cell ?_).trans ?_,(hb3.cell ?_).trans ?_,(hb3.cell ?_).trans ?_,(hb3.cell ?_).trans ?_⟩<;>first|assumption|(simp[*];done)|(simp;omega))) (first|(go_at_call 157;refine(c_eqNode x _ _ _ (T.yD R13.out (by first|exact Below.refl _ _|exact Below.drew (Below.refl _ _)|exact below_drewN (Below.refl _ _) _)) (T.yD R23.out (by first|exact Below.refl _ _|exact Below.drew (Below.refl _ _)|exact below_drewN (Below.refl _ _) _))).mono ?_;rintro e w3 ⟨rfl,hb3⟩))
   have hb4:Below w.heap.size w w3:=yH HB.out HB.out.size (by first|exact hb3|exact undrew hb3|exact undrewN hb3)
   have HB4:=hide hb4;clear hb4 hb3
   go_wp2
   go_roundw
   case rel=>exact⟨k+1,by omega,by go_num,(by first|exact HB4.out|exact undrew HB4.out|exact Below.drew HB4.out|exact Below.drew (undrew HB4.out)|exact undrewN HB4.out|exact below_drewN HB4.out _)⟩
   case measure=>simp[intOf];omega
  ·go_wp2
   go_ret
   exact⟨rfl,HB.out⟩
theorem c_eqPatch (x:GPatch) (v1:Value) (v2:Value) (v3:Value) (u1:Value) (u2:Value) (u3:Value) (w:World) (r1:T.rd w (T.sl 24 1 (x.zN.map (T.ints 2))) [v1]) (r2:T.rd w (T.sl 160 4 (x.zD.map GNode.t)) [v2]) (r3:T.rd w (T.ints 2 x.zK) [v3]) (t1:T.rd w (T.sl 24 1 (x.zN.map (T.ints 2))) [u1]) (t2:T.rd w (T.sl 160 4 (x.zD.map GNode.t)) [u2]) (t3:T.rd w (T.ints 2 x.zK) [u3]):
  Calls Tryz.prog 82 #[.agg #[.int .i64 x.zJ,v1,v2,v3],.agg #[.int .i64 x.zJ,u1,u2,u3]] w fun e w'=>e= .returned (.bool true)∧Below w.heap.size w w':=by
 have R1:=hide r1;have Q1:=hide t1
 have R2:=hide r2;have Q2:=hide t2
 have R3:=hide r3;have Q3:=hide t3
 clear r1 t1 r2 t2 r3 t3
 go_enter Tryz.func82,Tryz.ntmps82
 have HB0:=hide (show Below w.heap.size w ((w.alloc (.cells #[.int .i64 x.zJ,v1,v2,v3] 102)).alloc (.cells #[.int .i64 x.zJ,u1,u2,u3] 102)) from((Below.refl _ _).alloc (Nat.le_refl _) _).alloc (by first|(simp;done)|(simp;omega)|omega) _)
 have HK0:=hide ((Bk.born w 102 #[.int .i64 x.zJ,v1,v2,v3]).alloc (.cells #[.int .i64 x.zJ,u1,u2,u3] 102))
 have HJ0:=hide (Bk.born1' w (.cells #[.int .i64 x.zJ,v1,v2,v3] 102) 102 #[.int .i64 x.zJ,u1,u2,u3])
 go_wp2_with fail
 refine(c_eqInt64SS _ _ x.zN _ (T.yD R1.out HB0.out) (T.yD Q1.out HB0.out)).mono ?_;rintro e w1 ⟨rfl,hb⟩
 have HK1:=hide (HK0.out.below hb HK0.out.lt);have HJ1:=hide (HJ0.out.below hb HJ0.out.lt);have HB1:=hide (yH HB0.out HB0.out.size hb);clear hb
 have k1:=HK1.out.cell;have j1:=HJ1.out.cell
 go_wp2_with fail
 refine(c_eqNodeS _ _ x.zD _ (T.yD R2.out HB1.out) (T.yD Q2.out HB1.out)).mono ?_;rintro e w2 ⟨rfl,hb⟩
 have HK2:=hide (HK1.out.below hb HK1.out.lt);have HJ2:=hide (HJ1.out.below hb HJ1.out.lt);have HB2:=hide (yH HB1.out HB1.out.size hb);clear hb
 have k2:=HK2.out.cell;have j2:=HJ2.out.cell
 go_wp2_with fail
 refine(c_eqIB _ _ x.zK _ (T.yD R3.out HB2.out) (T.yD Q3.out HB2.out)).mono ?_;rintro e w3 ⟨rfl,hb⟩
 have HK3:=hide (HK2.out.below hb HK2.out.lt);have HJ3:=hide (HJ2.out.below hb HJ2.out.lt);have HB3:=hide (yH HB2.out HB2.out.size hb);clear hb
 have k3:=HK3.out.cell;have j3:=HJ3.out.cell
 go_wp2
 go_ret
 exact⟨rfl,HB3.out⟩
theorem c_eqPatchS (v u:Value) (xs:List GPatch) (w:World) (hr:T.rd w (T.sl 102 4 (xs.map GPatch.t)) [v]) (ht:T.rd w (T.sl 102 4 (xs.map GPatch.t)) [u]):
  Calls Tryz.prog 36 #[v,u] w fun e w'=>e= .returned (.bool true)∧Below w.heap.size w w':=by
 obtain⟨A1,cap1,rfl,hl1,hc1,hx1⟩:=T.yM hr
 obtain⟨A2,cap2,rfl,hl2,hc2,hx2⟩:=T.yM ht
 rw[List.length_map] at hl1 hl2 ⊢
 have HX1:=hide hx1;have HX2:=hide hx2;clear hx1 hx2 hr ht
 go_enter Tryz.func36,Tryz.ntmps36
 go_wp2
 go_loopw [5] (fun i wr=> ∃ k:Nat,k≤xs.length∧i= .int .i64 k∧Below w.heap.size w wr) (fun i _=>xs.length - (intOf i).toNat)
 case atStart=>exact⟨0,Nat.zero_le _,rfl,Below.refl _ _⟩
 case round=>
  obtain⟨k,hk,rfl,hb⟩:=hrel
  have HB:=hide hb;clear hb
  by_cases hlt:k<xs.length
  ·have hgk:=List.getElem?_eq_getElem hlt
   obtain⟨b1,o1,cs1,rfl,hbw1,hcs1,hcell1⟩:=HX1.out k (GPatch.t xs[k]) (by rw[List.getElem?_map,hgk];rfl)
   obtain⟨b2,o2,cs2,rfl,hbw2,hcs2,hcell2⟩:=HX2.out k (GPatch.t xs[k]) (by rw[List.getElem?_map,hgk];rfl)
   generalize xs[k]=x at *
   clear hgk
   obtain⟨v1,v2,v3,rfl,hR11,hR12,hR13⟩:=GPatch.yM (show T.rds _ _ _ by simpa only[GPatch.t,T.rd] using hcs1)
   have d10:=(HB.out.cell hbw1).trans (hcell1 0 (.int .i64 x.zJ) rfl)
   have d11:=(HB.out.cell hbw1).trans (hcell1 1 (v1) rfl)
   have d12:=(HB.out.cell hbw1).trans (hcell1 2 (v2) rfl)
   have d13:=(HB.out.cell hbw1).trans (hcell1 3 (v3) rfl)
   rw[show o1+(k * 4+0)=o1+k * 4 by omega] at d10
   rw[show o1+(k * 4+1)=o1+k * 4+1 by omega] at d11
   rw[show o1+(k * 4+2)=o1+k * 4+2 by omega] at d12
   rw[show o1+(k * 4+3)=o1+k * 4+3 by omega] at d13
   have R11:=hide (T.yD hR11 HB.out);clear hR11
   have R12:=hide (T.yD hR12 HB.out);clear hR12
   have R13:=hide (T.yD hR13 HB.out);clear hR13
   clear hcs1 hcell1
   have hq1:b1<wr.heap.size:=Nat.lt_of_lt_of_le hbw1 HB.out.size
   obtain⟨u1,u2,u3,rfl,hR21,hR22,hR23⟩:=GPatch.yM (show T.rds _ _ _ by simpa only[GPatch.t,T.rd] using hcs2)
   have d20:=(HB.out.cell hbw2).trans (hcell2 0 (.int .i64 x.zJ) rfl)
   have d21:=(HB.out.cell hbw2).trans (hcell2 1 (u1) rfl)
   have d22:=(HB.out.cell hbw2).trans (hcell2 2 (u2) rfl)
   have d23:=(HB.out.cell hbw2).trans (hcell2 3 (u3) rfl)
   rw[show o2+(k * 4+0)=o2+k * 4 by omega] at d20
   rw[show o2+(k * 4+1)=o2+k * 4+1 by omega] at d21
   rw[show o2+(k * 4+2)=o2+k * 4+2 by omega] at d22
   rw[show o2+(k * 4+3)=o2+k * 4+3 by omega] at d23
   have R21:=hide (T.yD hR21 HB.out);clear hR21
   have R22:=hide (T.yD hR22 HB.out);clear hR22
   have R23:=hide (T.yD hR23 HB.out);clear hR23
   clear hcs2 hcell2
   have hq2:b2<wr.heap.size:=Nat.lt_of_lt_of_le hbw2 HB.out.size
   obtain⟨va1,vl1,vc1,rfl⟩:=T.yS R11.out
   obtain⟨va2,vl2,vc2,rfl⟩:=T.yS R12.out
   obtain⟨va3,vl3,vc3,rfl⟩:=T.yS R13.out
   obtain⟨ua1,ul1,uc1,rfl⟩:=T.yS R21.out
   obtain⟨ua2,ul2,uc2,rfl⟩:=T.yS R22.out
   obtain⟨ua3,ul3,uc3,rfl⟩:=T.yS R23.out
   go_wp2
   go_region_held3 (fun w'=>w'.cell? ⟨b1,o1+k * 4,none⟩=some (.int .i64 x.zJ)∧w'.cell? ⟨b1,o1+k * 4+1,none⟩=some (.slice va1 vl1 vc1)∧w'.cell? ⟨b1,o1+k * 4+2,none⟩=some (.slice va2 vl2 vc2)∧w'.cell? ⟨b1,o1+k * 4+3,none⟩=some (.slice va3 vl3 vc3)∧w'.cell? ⟨b2,o2+k * 4,none⟩=some (.int .i64 x.zJ)∧w'.cell? ⟨b2,o2+k * 4+1,none⟩=some (.slice ua1 ul1 uc1)∧w'.cell? ⟨b2,o2+k * 4+2,none⟩=some (.slice ua2 ul2 uc2)∧w'.cell? ⟨b2,o2+k * 4+3,none⟩=some (.slice ua3 ul3 uc3)) (first|go_keep|(refine⟨(hb3.cell ?_).trans ?_,(hb3.cell ?_).trans ?_,(hb3.cell ?_).trans ?_,(hb3.cell ?_).trans ?_,(hb3.cell ?_).trans ?_,(hb3.cell ?_).trans ?_,(hb3.cell ?_).trans ?_,(hb3.cell ?_).trans ?_⟩<;>first|assumption|(simp[*];done)|(simp;omega))) (first|(go_at_call 82;refine(c_eqPatch x _ _ _ _ _ _ _ (T.yD R11.out (by first|exact Below.refl _ _|exact Below.drew (Below.refl _ _)|exact below_drewN (Below.refl _ _) _)) (T.yD R12.out (by first|exact Below.refl _ _|exact Below.drew (Below.refl _ _)|exact below_drewN (Below.refl _ _) _)) (T.yD R13.out (by first|exact Below.refl _ _|exact Below.drew (Below.refl _ _)|exact below_drewN (Below.refl _ _) _)) (T.yD R21.out (by first|exact Below.refl _ _|exact Below.drew (Below.refl _ _)|exact below_drewN (Below.refl _ _) _)) (T.yD R22.out (by first|exact Below.refl _ _|exact Below.drew (Below.refl _ _)|exact below_drewN (Below.refl _ _) _)) (T.yD R23.out (by first|exact Below.refl _ _|exact Below.drew (Below.refl _ _)|exact below_drewN (Below.refl _ _) _))).mono ?_;rintro e w3 ⟨rfl,hb3⟩))
   have hb4:Below w.heap.size w w3:=yH HB.out HB.out.size (by first|exact hb3|exact undrew hb3|exact undrewN hb3)
   have HB4:=hide hb4;clear hb4 hb3
   go_wp2
   go_roundw
   case rel=>exact⟨k+1,by omega,by go_num,(by first|exact HB4.out|exact undrew HB4.out|exact Below.drew HB4.out|exact Below.drew (undrew HB4.out)|exact undrewN HB4.out|exact below_drewN HB4.out _)⟩
   case measure=>simp[intOf];omega
  ·go_wp2
   go_ret
   exact⟨rfl,HB.out⟩
theorem c_eqSend (x:GSend) (w:World):
  Calls Tryz.prog 183 #[.agg #[.int .i64 x.yC,.int .i64 x.zQ],.agg #[.int .i64 x.yC,.int .i64 x.zQ]] w fun e w'=>e= .returned (.bool true)∧Below w.heap.size w w':=by
 go_enter Tryz.func183,Tryz.ntmps183
 have HB0:=hide (show Below w.heap.size w ((w.alloc (.cells #[.int .i64 x.yC,.int .i64 x.zQ] 156)).alloc (.cells #[.int .i64 x.yC,.int .i64 x.zQ] 156)) from((Below.refl _ _).alloc (Nat.le_refl _) _).alloc (by first|(simp;done)|(simp;omega)|omega) _)
 have HK0:=hide ((Bk.born w 156 #[.int .i64 x.yC,.int .i64 x.zQ]).alloc (.cells #[.int .i64 x.yC,.int .i64 x.zQ] 156))
 have HJ0:=hide (Bk.born1' w (.cells #[.int .i64 x.yC,.int .i64 x.zQ] 156) 156 #[.int .i64 x.yC,.int .i64 x.zQ])
 go_wp2
 go_ret
 exact⟨rfl,HB0.out⟩
theorem c_eqSendS (v u:Value) (xs:List GSend) (w:World) (hr:T.rd w (T.sl 156 2 (xs.map GSend.t)) [v]) (ht:T.rd w (T.sl 156 2 (xs.map GSend.t)) [u]):
  Calls Tryz.prog 158 #[v,u] w fun e w'=>e= .returned (.bool true)∧Below w.heap.size w w':=by
 obtain⟨A1,cap1,rfl,hl1,hc1,hx1⟩:=T.yM hr
 obtain⟨A2,cap2,rfl,hl2,hc2,hx2⟩:=T.yM ht
 rw[List.length_map] at hl1 hl2 ⊢
 have HX1:=hide hx1;have HX2:=hide hx2;clear hx1 hx2 hr ht
 go_enter Tryz.func158,Tryz.ntmps158
 go_wp2
 go_loopw [5] (fun i wr=> ∃ k:Nat,k≤xs.length∧i= .int .i64 k∧Below w.heap.size w wr) (fun i _=>xs.length - (intOf i).toNat)
 case atStart=>exact⟨0,Nat.zero_le _,rfl,Below.refl _ _⟩
 case round=>
  obtain⟨k,hk,rfl,hb⟩:=hrel
  have HB:=hide hb;clear hb
  by_cases hlt:k<xs.length
  ·have hgk:=List.getElem?_eq_getElem hlt
   obtain⟨b1,o1,cs1,rfl,hbw1,hcs1,hcell1⟩:=HX1.out k (GSend.t xs[k]) (by rw[List.getElem?_map,hgk];rfl)
   obtain⟨b2,o2,cs2,rfl,hbw2,hcs2,hcell2⟩:=HX2.out k (GSend.t xs[k]) (by rw[List.getElem?_map,hgk];rfl)
   generalize xs[k]=x at *
   clear hgk
   obtain rfl:=GSend.yM (show T.rds _ _ _ by simpa only[GSend.t,T.rd] using hcs1)
   have d10:=(HB.out.cell hbw1).trans (hcell1 0 (.int .i64 x.yC) rfl)
   have d11:=(HB.out.cell hbw1).trans (hcell1 1 (.int .i64 x.zQ) rfl)
   rw[show o1+(k * 2+0)=o1+k * 2 by omega] at d10
   rw[show o1+(k * 2+1)=o1+k * 2+1 by omega] at d11
   clear hcs1 hcell1
   have hq1:b1<wr.heap.size:=Nat.lt_of_lt_of_le hbw1 HB.out.size
   obtain rfl:=GSend.yM (show T.rds _ _ _ by simpa only[GSend.t,T.rd] using hcs2)
   have d20:=(HB.out.cell hbw2).trans (hcell2 0 (.int .i64 x.yC) rfl)
   have d21:=(HB.out.cell hbw2).trans (hcell2 1 (.int .i64 x.zQ) rfl)
   rw[show o2+(k * 2+0)=o2+k * 2 by omega] at d20
   rw[show o2+(k * 2+1)=o2+k * 2+1 by omega] at d21
   clear hcs2 hcell2
   have hq2:b2<wr.heap.size:=Nat.lt_of_lt_of_le hbw2 HB.out.size
   go_wp2
   go_region_held3 (fun w'=>w'.cell? ⟨b1,o1+k * 2,none⟩=some (.int .i64 x.yC)∧w'.cell? ⟨b1,o1+k * 2+1,none⟩=some (.int .i64 x.zQ)∧w'.cell? ⟨b2,o2+k * 2,none⟩=some (.int .i64 x.yC)∧w'.cell? ⟨b2,o2+k * 2+1,none⟩=some (.int .i64 x.zQ)) (first|go_keep|(refine⟨(hb3.cell ?_).trans ?_,(hb3.cell ?_).trans ?_,(hb3.cell ?_).trans ?_,(hb3.cell ?_).trans ?_⟩<;>first|assumption|(simp[*];done)|(simp;omega))) (first|(go_at_call 183;refine(c_eqSend x _).mono ?_;rintro e w3 ⟨rfl,hb3⟩))
   have hb4:Below w.heap.size w w3:=yH HB.out HB.out.size (by first|exact hb3|exact undrew hb3|exact undrewN hb3)
   have HB4:=hide hb4;clear hb4 hb3
   go_wp2
   go_roundw
   case rel=>exact⟨k+1,by omega,by go_num,(by first|exact HB4.out|exact undrew HB4.out|exact Below.drew HB4.out|exact Below.drew (undrew HB4.out)|exact undrewN HB4.out|exact below_drewN HB4.out _)⟩
   case measure=>simp[intOf];omega
  ·go_wp2
   go_ret
   exact⟨rfl,HB.out⟩
theorem c_eqStrip (x:GStrip) (v2:Value) (u2:Value) (w:World) (r2:T.rd w (T.sl 156 2 (x.yA.map GSend.t)) [v2]) (t2:T.rd w (T.sl 156 2 (x.yA.map GSend.t)) [u2]):
  Calls Tryz.prog 122 #[.agg #[.string x.zV,.int .i64 x.zT,v2],.agg #[.string x.zV,.int .i64 x.zT,u2]] w fun e w'=>e= .returned (.bool true)∧Below w.heap.size w w':=by
 have R2:=hide r2;have Q2:=hide t2
 clear r2 t2
 have hse0:=str_selfT x.zV
 go_enter Tryz.func122,Tryz.ntmps122
 have HB0:=hide (show Below w.heap.size w ((w.alloc (.cells #[.string x.zV,.int .i64 x.zT,v2] 117)).alloc (.cells #[.string x.zV,.int .i64 x.zT,u2] 117)) from((Below.refl _ _).alloc (Nat.le_refl _) _).alloc (by first|(simp;done)|(simp;omega)|omega) _)
 have HK0:=hide ((Bk.born w 117 #[.string x.zV,.int .i64 x.zT,v2]).alloc (.cells #[.string x.zV,.int .i64 x.zT,u2] 117))
 have HJ0:=hide (Bk.born1' w (.cells #[.string x.zV,.int .i64 x.zT,v2] 117) 117 #[.string x.zV,.int .i64 x.zT,u2])
 go_wp2_with fail
 refine(c_eqSendS _ _ x.yA _ (T.yD R2.out HB0.out) (T.yD Q2.out HB0.out)).mono ?_;rintro e w1 ⟨rfl,hb⟩
 have HK1:=hide (HK0.out.below hb HK0.out.lt);have HJ1:=hide (HJ0.out.below hb HJ0.out.lt);have HB1:=hide (yH HB0.out HB0.out.size hb);clear hb
 have k1:=HK1.out.cell;have j1:=HJ1.out.cell
 go_wp2
 go_ret
 exact⟨rfl,HB1.out⟩
theorem c_eqStripS (v u:Value) (xs:List GStrip) (w:World) (hr:T.rd w (T.sl 117 3 (xs.map GStrip.t)) [v]) (ht:T.rd w (T.sl 117 3 (xs.map GStrip.t)) [u]):
  Calls Tryz.prog 83 #[v,u] w fun e w'=>e= .returned (.bool true)∧Below w.heap.size w w':=by
 obtain⟨A1,cap1,rfl,hl1,hc1,hx1⟩:=T.yM hr
 obtain⟨A2,cap2,rfl,hl2,hc2,hx2⟩:=T.yM ht
 rw[List.length_map] at hl1 hl2 ⊢
 have HX1:=hide hx1;have HX2:=hide hx2;clear hx1 hx2 hr ht
 go_enter Tryz.func83,Tryz.ntmps83
 go_wp2
 go_loopw [5] (fun i wr=> ∃ k:Nat,k≤xs.length∧i= .int .i64 k∧Below w.heap.size w wr) (fun i _=>xs.length - (intOf i).toNat)
 case atStart=>exact⟨0,Nat.zero_le _,rfl,Below.refl _ _⟩
 case round=>
  obtain⟨k,hk,rfl,hb⟩:=hrel
  have HB:=hide hb;clear hb
  by_cases hlt:k<xs.length
  ·have hgk:=List.getElem?_eq_getElem hlt
   obtain⟨b1,o1,cs1,rfl,hbw1,hcs1,hcell1⟩:=HX1.out k (GStrip.t xs[k]) (by rw[List.getElem?_map,hgk];rfl)
   obtain⟨b2,o2,cs2,rfl,hbw2,hcs2,hcell2⟩:=HX2.out k (GStrip.t xs[k]) (by rw[List.getElem?_map,hgk];rfl)
   generalize xs[k]=x at *
   clear hgk
   obtain⟨v2,rfl,hR12⟩:=GStrip.yM (show T.rds _ _ _ by simpa only[GStrip.t,T.rd] using hcs1)
   have d10:=(HB.out.cell hbw1).trans (hcell1 0 (.string x.zV) rfl)
   have d11:=(HB.out.cell hbw1).trans (hcell1 1 (.int .i64 x.zT) rfl)
   have d12:=(HB.out.cell hbw1).trans (hcell1 2 (v2) rfl)
   rw[show o1+(k * 3+0)=o1+k * 3 by omega] at d10
   rw[show o1+(k * 3+1)=o1+k * 3+1 by omega] at d11
   rw[show o1+(k * 3+2)=o1+k * 3+2 by omega] at d12
   have R12:=hide (T.yD hR12 HB.out);clear hR12
   clear hcs1 hcell1
   have hq1:b1<wr.heap.size:=Nat.lt_of_lt_of_le hbw1 HB.out.size
   obtain⟨u2,rfl,hR22⟩:=GStrip.yM (show T.rds _ _ _ by simpa only[GStrip.t,T.rd] using hcs2)
   have d20:=(HB.out.cell hbw2).trans (hcell2 0 (.string x.zV) rfl)
   have d21:=(HB.out.cell hbw2).trans (hcell2 1 (.int .i64 x.zT) rfl)
   have d22:=(HB.out.cell hbw2).trans (hcell2 2 (u2) rfl)
   rw[show o2+(k * 3+0)=o2+k * 3 by omega] at d20
   rw[show o2+(k * 3+1)=o2+k * 3+1 by omega] at d21
   rw[show o2+(k * 3+2)=o2+k * 3+2 by omega] at d22
   have R22:=hide (T.yD hR22 HB.out);clear hR22
   clear hcs2 hcell2
   have hq2:b2<wr.heap.size:=Nat.lt_of_lt_of_le hbw2 HB.out.size
   obtain⟨va2,vl2,vc2,rfl⟩:=T.yS R12.out
   obtain⟨ua2,ul2,uc2,rfl⟩:=T.yS R22.out
   go_wp2
   go_region_held3 (fun w'=>w'.cell? ⟨b1,o1+k * 3,none⟩=some (.string x.zV)∧w'.cell? ⟨b1,o1+k * 3+1,none⟩=some (.int .i64 x.zT)∧w'.cell? ⟨b1,o1+k * 3+2,none⟩=some (.slice va2 vl2 vc2)∧w'.cell? ⟨b2,o2+k * 3,none⟩=some (.string x.zV)∧w'.cell? ⟨b2,o2+k * 3+1,none⟩=some (.int .i64 x.zT)∧w'.cell? ⟨b2,o2+k * 3+2,none⟩=some (.slice ua2 ul2 uc2)) (first|go_keep|(refine⟨(hb3.cell ?_).trans ?_,(hb3.cell ?_).trans ?_,(hb3.cell ?_).trans ?_,(hb3.cell ?_).trans ?_,(hb3.cell ?_).trans ?_,(hb3.cell ?_).trans ?_⟩<;>first|assumption|(simp[*];done)|(simp;omega))) (first|(go_at_call 122;refine(c_eqStrip x _ _ _ (T.yD R12.out (by first|exact Below.refl _ _|exact Below.drew (Below.refl _ _)|exact below_drewN (Below.refl _ _) _)) (T.yD R22.out (by first|exact Below.refl _ _|exact Below.drew (Below.refl _ _)|exact below_drewN (Below.refl _ _) _))).mono ?_;rintro e w3 ⟨rfl,hb3⟩))
   have hb4:Below w.heap.size w w3:=yH HB.out HB.out.size (by first|exact hb3|exact undrew hb3|exact undrewN hb3)
   have HB4:=hide hb4;clear hb4 hb3
   go_wp2
   go_roundw
   case rel=>exact⟨k+1,by omega,by go_num,(by first|exact HB4.out|exact undrew HB4.out|exact Below.drew HB4.out|exact Below.drew (undrew HB4.out)|exact undrewN HB4.out|exact below_drewN HB4.out _)⟩
   case measure=>simp[intOf];omega
  ·go_wp2
   go_ret
   exact⟨rfl,HB.out⟩
theorem c_eqMixer (x:GMixer) (v0:Value) (u0:Value) (w:World) (r0:T.rd w (T.sl 117 3 (x.zH.map GStrip.t)) [v0]) (t0:T.rd w (T.sl 117 3 (x.zH.map GStrip.t)) [u0]):
  Calls Tryz.prog 37 #[.agg #[v0],.agg #[u0]] w fun e w'=>e= .returned (.bool true)∧Below w.heap.size w w':=by
 have R0:=hide r0;have Q0:=hide t0
 clear r0 t0
 go_enter Tryz.func37,Tryz.ntmps37
 have HB0:=hide (show Below w.heap.size w ((w.alloc (.cells #[v0] 39)).alloc (.cells #[u0] 39)) from((Below.refl _ _).alloc (Nat.le_refl _) _).alloc (by first|(simp;done)|(simp;omega)|omega) _)
 have HK0:=hide ((Bk.born w 39 #[v0]).alloc (.cells #[u0] 39))
 have HJ0:=hide (Bk.born1' w (.cells #[v0] 39) 39 #[u0])
 go_wp2_with fail
 refine(c_eqStripS _ _ x.zH _ (T.yD R0.out HB0.out) (T.yD Q0.out HB0.out)).mono ?_;rintro e w1 ⟨rfl,hb⟩
 have HK1:=hide (HK0.out.below hb HK0.out.lt);have HJ1:=hide (HJ0.out.below hb HJ0.out.lt);have HB1:=hide (yH HB0.out HB0.out.size hb);clear hb
 have k1:=HK1.out.cell;have j1:=HJ1.out.cell
 go_wp2
 go_ret
 exact⟨rfl,HB1.out⟩
theorem c_eqSession (x:GSession) (v1:Value) (v2:Value) (v3:Value) (v4:Value) (v5:Value) (u1:Value) (u2:Value) (u3:Value) (u4:Value) (u5:Value) (w:World) (r1:T.rd w (T.sl 24 1 (x.zM.map (T.ints 2))) [v1]) (r2:T.rd w (T.sl 98 1 (x.zO.map GTrack.t)) [v2]) (r3:T.rd w (T.ints 2 x.zU) [v3]) (r4:T.rd w (T.sl 102 4 (x.zP.map GPatch.t)) [v4]) (r5:T.rd w (T.sl 117 3 (x.zW.zH.map GStrip.t)) [v5]) (t1:T.rd w (T.sl 24 1 (x.zM.map (T.ints 2))) [u1]) (t2:T.rd w (T.sl 98 1 (x.zO.map GTrack.t)) [u2]) (t3:T.rd w (T.ints 2 x.zU) [u3]) (t4:T.rd w (T.sl 102 4 (x.zP.map GPatch.t)) [u4]) (t5:T.rd w (T.sl 117 3 (x.zW.zH.map GStrip.t)) [u5]):
  Calls Tryz.prog 9 #[.agg #[.int .i64 x.zE,v1,v2,v3,v4,v5],.agg #[.int .i64 x.zE,u1,u2,u3,u4,u5]] w fun e w'=>e= .returned (.bool true)∧Below w.heap.size w w':=by
 have R1:=hide r1;have Q1:=hide t1
 have R2:=hide r2;have Q2:=hide t2
 have R3:=hide r3;have Q3:=hide t3
 have R4:=hide r4;have Q4:=hide t4
 have R5:=hide r5;have Q5:=hide t5
 clear r1 t1 r2 t2 r3 t3 r4 t4 r5 t5
 go_enter Tryz.func9,Tryz.ntmps9
 have HB0:=hide (show Below w.heap.size w ((w.alloc (.cells #[.int .i64 x.zE,v1,v2,v3,v4,v5] 41)).alloc (.cells #[.int .i64 x.zE,u1,u2,u3,u4,u5] 41)) from((Below.refl _ _).alloc (Nat.le_refl _) _).alloc (by first|(simp;done)|(simp;omega)|omega) _)
 have HK0:=hide ((Bk.born w 41 #[.int .i64 x.zE,v1,v2,v3,v4,v5]).alloc (.cells #[.int .i64 x.zE,u1,u2,u3,u4,u5] 41))
 have HJ0:=hide (Bk.born1' w (.cells #[.int .i64 x.zE,v1,v2,v3,v4,v5] 41) 41 #[.int .i64 x.zE,u1,u2,u3,u4,u5])
 go_wp2_with fail
 refine(c_eqInt64SS _ _ x.zM _ (T.yD R1.out HB0.out) (T.yD Q1.out HB0.out)).mono ?_;rintro e w1 ⟨rfl,hb⟩
 have HK1:=hide (HK0.out.below hb HK0.out.lt);have HJ1:=hide (HJ0.out.below hb HJ0.out.lt);have HB1:=hide (yH HB0.out HB0.out.size hb);clear hb
 have k1:=HK1.out.cell;have j1:=HJ1.out.cell
 go_wp2_with fail
 refine(c_eqTrackS _ _ x.zO _ (T.yD R2.out HB1.out) (T.yD Q2.out HB1.out)).mono ?_;rintro e w2 ⟨rfl,hb⟩
 have HK2:=hide (HK1.out.below hb HK1.out.lt);have HJ2:=hide (HJ1.out.below hb HJ1.out.lt);have HB2:=hide (yH HB1.out HB1.out.size hb);clear hb
 have k2:=HK2.out.cell;have j2:=HJ2.out.cell
 go_wp2_with fail
 refine(c_eqIB _ _ x.zU _ (T.yD R3.out HB2.out) (T.yD Q3.out HB2.out)).mono ?_;rintro e w3 ⟨rfl,hb⟩
 have HK3:=hide (HK2.out.below hb HK2.out.lt);have HJ3:=hide (HJ2.out.below hb HJ2.out.lt);have HB3:=hide (yH HB2.out HB2.out.size hb);clear hb
 have k3:=HK3.out.cell;have j3:=HJ3.out.cell
 go_wp2_with fail
 refine(c_eqPatchS _ _ x.zP _ (T.yD R4.out HB3.out) (T.yD Q4.out HB3.out)).mono ?_;rintro e w4 ⟨rfl,hb⟩
 have HK4:=hide (HK3.out.below hb HK3.out.lt);have HJ4:=hide (HJ3.out.below hb HJ3.out.lt);have HB4:=hide (yH HB3.out HB3.out.size hb);clear hb
 have k4:=HK4.out.cell;have j4:=HJ4.out.cell
 go_wp2_with fail
 refine(c_eqMixer x.zW v5 u5 _ (T.yD R5.out HB4.out) (T.yD Q5.out HB4.out)).mono ?_;rintro e w5 ⟨rfl,hb⟩
 have HK5:=hide (HK4.out.below hb HK4.out.lt);have HJ5:=hide (HJ4.out.below hb HJ4.out.lt);have HB5:=hide (yH HB4.out HB4.out.size hb);clear hb
 have k5:=HK5.out.cell;have j5:=HJ5.out.cell
 go_wp2
 go_ret
 exact⟨rfl,HB5.out⟩
end Go.Proofs.YtbgedljbgkcpiaaGreatDoor
