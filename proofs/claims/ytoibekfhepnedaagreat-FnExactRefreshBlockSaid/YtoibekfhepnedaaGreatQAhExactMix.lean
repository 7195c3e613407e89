/- Contracts: nested data compared with itself. -/
import Derived.Test.YtoibekfhepnedaaGreatQAbExactMix
import Derived.Test.YtoibekfhepnedaaGreatQAcExactMix
import Derived.Deep.RegionHeld3
set_option linter.unusedVariables false
set_option linter.unusedSimpArgs false
set_option maxHeartbeats 1000000
set_option maxRecDepth 20000
namespace Go.Proofs.YtoibekfhepnedaaGreat
open Go.RowKit
theorem str_selfT (s:ByteArray):(s.toList == s.toList)=true:=by simp
theorem c_eqIB (v u:Value) (xs:List Int) (w:World) (hr:T.rd w (T.ints 2 xs) [v]) (ht:T.rd w (T.ints 2 xs) [u]):
  Calls Tryz.prog 63 #[v,u] w fun e w'=>e= .returned (.bool true)∧Below w.heap.size w w':=
 (c_eqI v u xs w (T.xB.1 hr) (T.xB.1 ht)).mono fun e w' ⟨h1,h2⟩=>⟨h1,h2.to_below _⟩
theorem c_eqInt64SS (v u:Value) (xs:List (List Int)) (w:World) (hr:T.rd w (T.sl 26 1 (xs.map (T.ints 2))) [v]) (ht:T.rd w (T.sl 26 1 (xs.map (T.ints 2))) [u]):
  Calls Tryz.prog 73 #[v,u] w fun e w'=>e= .returned (.bool true)∧Below w.heap.size w w':=by
 obtain⟨A1,cap1,rfl,hl1,hc1,hx1⟩:=T.yV hr;obtain⟨A2,cap2,rfl,hl2,hc2,hx2⟩:=T.yV ht;rw[List.length_map] at hl1 hl2 ⊢;have HX1:=xN hx1;have HX2:=xN hx2;clear hx1 hx2 hr ht
 go_enter Tryz.func73,Tryz.ntmps73
 go_wp2
 go_loopw [5] (fun i wr=> ∃ k:Nat,k≤xs.length∧i= .int .i64 k∧Below w.heap.size w wr) (fun i _=>xs.length - (intOf i).toNat)
 case atStart=>exact⟨0,Nat.zero_le _,rfl,zR⟩
 case round=>
  obtain⟨k,hk,rfl,hb⟩:=hrel;have HB:=xN hb;clear hb;by_cases hlt:k<xs.length
  ·have hgk:=gE hlt
   obtain⟨b1,o1,cs1,rfl,hbw1,hcs1,hcell1⟩:=HX1.out k (T.ints 2 xs[k]) (by rw[List.getElem?_map,hgk];rfl);obtain⟨v1,rfl⟩:=T.rd_one hcs1;have d1:=(HB.out.cell hbw1).trans (hcell1 0 v1 rfl);rw[Nat.mul_one,Nat.add_zero] at d1;have R1:=xN (T.yM hcs1 HB.out);have hq1:b1<wr.heap.size:=zW hbw1 HB.out.size;clear hcs1 hcell1;obtain⟨b2,o2,cs2,rfl,hbw2,hcs2,hcell2⟩:=HX2.out k (T.ints 2 xs[k]) (by rw[List.getElem?_map,hgk];rfl);obtain⟨v2,rfl⟩:=T.rd_one hcs2;have d2:=(HB.out.cell hbw2).trans (hcell2 0 v2 rfl);rw[Nat.mul_one,Nat.add_zero] at d2;have R2:=xN (T.yM hcs2 HB.out);have hq2:b2<wr.heap.size:=zW hbw2 HB.out.size;clear hcs2 hcell2;generalize xs[k]=x at *;clear hgk;obtain⟨sa1,sl1,sc1,rfl⟩:=T.xD R1.out;obtain⟨sa2,sl2,sc2,rfl⟩:=T.xD R2.out;go_wp2
   go_region_held3 (fun w'=>w'.cell? ⟨b1,o1+k,none⟩=some (.slice sa1 sl1 sc1)∧w'.cell? ⟨b2,o2+k,none⟩=some (.slice sa2 sl2 sc2)) (first|go_keep|(refine⟨(hb3.cell ?_).trans ?_,(hb3.cell ?_).trans ?_⟩<;>first|assumption|(simp[*];done)|(simp;omega))) (first|(go_at_call 63;refine(c_eqIB _ _ x _ (T.yM R1.out (by first|exact zR|exact Below.drew zR|exact below_drewN zR _)) (T.yM R2.out (by first|exact zR|exact Below.drew zR|exact below_drewN zR _))).mono ?_;rintro e w3 ⟨rfl,hb3⟩))
   have hb4:Below w.heap.size w w3:=yQ HB.out HB.out.size (by first|exact hb3|exact undrew hb3|exact wP hb3);have HB4:=xN hb4;clear hb4 hb3;go_wp2
   go_roundw
   case rel=>exact⟨k+1,by omega,by go_num,(by first|exact HB4.out|exact undrew HB4.out|exact Below.drew HB4.out|exact Below.drew (undrew HB4.out)|exact wP HB4.out|exact below_drewN HB4.out _)⟩
   case measure=>simp[intOf];omega
  ·go_wp2
   go_ret
   exact⟨rfl,HB.out⟩
theorem c_eqClip (x:xU) (w:World):
  Calls Tryz.prog 251 #[.agg #[.int .i64 x.yD,.int .i64 x.zK,.int .i64 x.zF,.int .i64 x.yH,.int .i64 x.yB],.agg #[.int .i64 x.yD,.int .i64 x.zK,.int .i64 x.zF,.int .i64 x.yH,.int .i64 x.yB]] w fun e w'=>e= .returned (.bool true)∧Below w.heap.size w w':=by
 go_enter Tryz.func251,Tryz.ntmps251
 have HB0:=xN (show Below w.heap.size w ((w.alloc (.cells #[.int .i64 x.yD,.int .i64 x.zK,.int .i64 x.zF,.int .i64 x.yH,.int .i64 x.yB] 39)).alloc (.cells #[.int .i64 x.yD,.int .i64 x.zK,.int .i64 x.zF,.int .i64 x.yH,.int .i64 x.yB] 39)) from(zR.alloc zJ _).alloc zQ _);have HK0:=xN ((Bk.born w 39 #[.int .i64 x.yD,.int .i64 x.zK,.int .i64 x.zF,.int .i64 x.yH,.int .i64 x.yB]).alloc (.cells #[.int .i64 x.yD,.int .i64 x.zK,.int .i64 x.zF,.int .i64 x.yH,.int .i64 x.yB] 39));have HJ0:=xN (Bk.born1' w (.cells #[.int .i64 x.yD,.int .i64 x.zK,.int .i64 x.zF,.int .i64 x.yH,.int .i64 x.yB] 39) 39 #[.int .i64 x.yD,.int .i64 x.zK,.int .i64 x.zF,.int .i64 x.yH,.int .i64 x.yB]);go_wp2;go_ret
 exact⟨rfl,HB0.out⟩
theorem c_eqClipS (v u:Value) (xs:List xU) (w:World) (hr:T.rd w (T.sl 39 5 (xs.map xU.t)) [v]) (ht:T.rd w (T.sl 39 5 (xs.map xU.t)) [u]):
  Calls Tryz.prog 205 #[v,u] w fun e w'=>e= .returned (.bool true)∧Below w.heap.size w w':=by
 obtain⟨A1,cap1,rfl,hl1,hc1,hx1⟩:=T.yV hr;obtain⟨A2,cap2,rfl,hl2,hc2,hx2⟩:=T.yV ht;rw[List.length_map] at hl1 hl2 ⊢;have HX1:=xN hx1;have HX2:=xN hx2;clear hx1 hx2 hr ht
 go_enter Tryz.func205,Tryz.ntmps205
 go_wp2
 go_loopw [5] (fun i wr=> ∃ k:Nat,k≤xs.length∧i= .int .i64 k∧Below w.heap.size w wr) (fun i _=>xs.length - (intOf i).toNat)
 case atStart=>exact⟨0,Nat.zero_le _,rfl,zR⟩
 case round=>
  obtain⟨k,hk,rfl,hb⟩:=hrel;have HB:=xN hb;clear hb;by_cases hlt:k<xs.length
  ·have hgk:=gE hlt
   obtain⟨b1,o1,cs1,rfl,hbw1,hcs1,hcell1⟩:=HX1.out k (xU.t xs[k]) (by rw[List.getElem?_map,hgk];rfl);obtain⟨b2,o2,cs2,rfl,hbw2,hcs2,hcell2⟩:=HX2.out k (xU.t xs[k]) (by rw[List.getElem?_map,hgk];rfl);generalize xs[k]=x at *;clear hgk;obtain rfl:=xU.yV (show T.rds _ _ _ by simpa only[xU.t,T.rd] using hcs1);have d10:=(HB.out.cell hbw1).trans (hcell1 0 (.int .i64 x.yD) rfl);have d11:=(HB.out.cell hbw1).trans (hcell1 1 (.int .i64 x.zK) rfl);have d12:=(HB.out.cell hbw1).trans (hcell1 2 (.int .i64 x.zF) rfl);have d13:=(HB.out.cell hbw1).trans (hcell1 3 (.int .i64 x.yH) rfl);have d14:=(HB.out.cell hbw1).trans (hcell1 4 (.int .i64 x.yB) rfl);rw[show o1+(k * 5+0)=o1+k * 5 by omega] at d10;rw[show o1+(k * 5+1)=o1+k * 5+1 by omega] at d11;rw[show o1+(k * 5+2)=o1+k * 5+2 by omega] at d12;rw[show o1+(k * 5+3)=o1+k * 5+3 by omega] at d13;rw[show o1+(k * 5+4)=o1+k * 5+4 by omega] at d14;clear hcs1 hcell1;have hq1:b1<wr.heap.size:=zW hbw1 HB.out.size;obtain rfl:=xU.yV (show T.rds _ _ _ by simpa only[xU.t,T.rd] using hcs2);have d20:=(HB.out.cell hbw2).trans (hcell2 0 (.int .i64 x.yD) rfl);have d21:=(HB.out.cell hbw2).trans (hcell2 1 (.int .i64 x.zK) rfl);have d22:=(HB.out.cell hbw2).trans (hcell2 2 (.int .i64 x.zF) rfl);have d23:=(HB.out.cell hbw2).trans (hcell2 3 (.int .i64 x.yH) rfl);have d24:=(HB.out.cell hbw2).trans (hcell2 4 (.int .i64 x.yB) rfl);rw[show o2+(k * 5+0)=o2+k * 5 by omega] at d20;rw[show o2+(k * 5+1)=o2+k * 5+1 by omega] at d21;rw[show o2+(k * 5+2)=o2+k * 5+2 by omega] at d22;rw[show o2+(k * 5+3)=o2+k * 5+3 by omega] at d23;rw[show o2+(k * 5+4)=o2+k * 5+4 by omega] at d24;clear hcs2 hcell2;have hq2:b2<wr.heap.size:=zW hbw2 HB.out.size;go_wp2
   go_region_held3 (fun w'=>w'.cell? ⟨b1,o1+k * 5,none⟩=some (.int .i64 x.yD)∧w'.cell? ⟨b1,o1+k * 5+1,none⟩=some (.int .i64 x.zK)∧w'.cell? ⟨b1,o1+k * 5+2,none⟩=some (.int .i64 x.zF)∧w'.cell? ⟨b1,o1+k * 5+3,none⟩=some (.int .i64 x.yH)∧w'.cell? ⟨b1,o1+k * 5+4,none⟩=some (.int .i64 x.yB)∧w'.cell? ⟨b2,o2+k * 5,none⟩=some (.int .i64 x.yD)∧w'.cell? ⟨b2,o2+k * 5+1,none⟩=some (.int .i64 x.zK)∧w'.cell? ⟨b2,o2+k * 5+2,none⟩=some (.int .i64 x.zF)∧w'.cell? ⟨b2,o2+k * 5+3,none⟩=some (.int .i64 x.yH)∧w'.cell? ⟨b2,o2+k * 5+4,none⟩=some (.int .i64 x.yB)) (first|go_keep|(refine⟨(hb3.cell ?_).trans ?_,(hb3.cell ?_).trans ?_,(hb3.cell ?_).trans ?_,(hb3.cell ?_).trans ?_,(hb3.cell ?_).trans ?_,(hb3.cell ?_).trans ?_,(hb3.cell ?_).trans ?_,(hb3.cell ?_).trans ?_,(hb3.cell ?_).trans ?_,(hb3.cell ?_).trans ?_⟩<;>first|assumption|(simp[*];done)|(simp;omega))) (first|(go_at_call 251;refine(c_eqClip x _).mono ?_;rintro e w3 ⟨rfl,hb3⟩))
   have hb4:Below w.heap.size w w3:=yQ HB.out HB.out.size (by first|exact hb3|exact undrew hb3|exact wP hb3);have HB4:=xN hb4;clear hb4 hb3;go_wp2
   go_roundw
   case rel=>exact⟨k+1,by omega,by go_num,(by first|exact HB4.out|exact undrew HB4.out|exact Below.drew HB4.out|exact Below.drew (undrew HB4.out)|exact wP HB4.out|exact below_drewN HB4.out _)⟩
   case measure=>simp[intOf];omega
  ·go_wp2
   go_ret
   exact⟨rfl,HB.out⟩
theorem c_eqTrack (x:xQ) (v0:Value) (u0:Value) (w:World) (r0:T.rd w (T.sl 39 5 (x.zZ.map xU.t)) [v0]) (t0:T.rd w (T.sl 39 5 (x.zZ.map xU.t)) [u0]):
  Calls Tryz.prog 140 #[.agg #[v0],.agg #[u0]] w fun e w'=>e= .returned (.bool true)∧Below w.heap.size w w':=by
 have R0:=xN r0;have Q0:=xN t0;clear r0 t0
 go_enter Tryz.func140,Tryz.ntmps140
 have HB0:=xN (show Below w.heap.size w ((w.alloc (.cells #[v0] 96)).alloc (.cells #[u0] 96)) from(zR.alloc zJ _).alloc zQ _);have HK0:=xN ((Bk.born w 96 #[v0]).alloc (.cells #[u0] 96));have HJ0:=xN (Bk.born1' w (.cells #[v0] 96) 96 #[u0]);go_wp2_with fail
 refine(c_eqClipS _ _ x.zZ _ (T.yM R0.out HB0.out) (T.yM Q0.out HB0.out)).mono ?_;rintro e w1 ⟨rfl,hb⟩;have HK1:=xN (HK0.out.below hb HK0.out.lt);have HJ1:=xN (HJ0.out.below hb HJ0.out.lt);have HB1:=xN (yQ HB0.out HB0.out.size hb);clear hb;have k1:=HK1.out.cell;have j1:=HJ1.out.cell;go_wp2;go_ret
 exact⟨rfl,HB1.out⟩
theorem c_eqTrackS (v u:Value) (xs:List xQ) (w:World) (hr:T.rd w (T.sl 96 1 (xs.map xQ.t)) [v]) (ht:T.rd w (T.sl 96 1 (xs.map xQ.t)) [u]):
  Calls Tryz.prog 74 #[v,u] w fun e w'=>e= .returned (.bool true)∧Below w.heap.size w w':=by
 obtain⟨A1,cap1,rfl,hl1,hc1,hx1⟩:=T.yV hr;obtain⟨A2,cap2,rfl,hl2,hc2,hx2⟩:=T.yV ht;rw[List.length_map] at hl1 hl2 ⊢;have HX1:=xN hx1;have HX2:=xN hx2;clear hx1 hx2 hr ht
 go_enter Tryz.func74,Tryz.ntmps74
 go_wp2
 go_loopw [5] (fun i wr=> ∃ k:Nat,k≤xs.length∧i= .int .i64 k∧Below w.heap.size w wr) (fun i _=>xs.length - (intOf i).toNat)
 case atStart=>exact⟨0,Nat.zero_le _,rfl,zR⟩
 case round=>
  obtain⟨k,hk,rfl,hb⟩:=hrel;have HB:=xN hb;clear hb;by_cases hlt:k<xs.length
  ·have hgk:=gE hlt
   obtain⟨b1,o1,cs1,rfl,hbw1,hcs1,hcell1⟩:=HX1.out k (xQ.t xs[k]) (by rw[List.getElem?_map,hgk];rfl);obtain⟨b2,o2,cs2,rfl,hbw2,hcs2,hcell2⟩:=HX2.out k (xQ.t xs[k]) (by rw[List.getElem?_map,hgk];rfl);generalize xs[k]=x at *;clear hgk;obtain⟨v0,rfl,hR10⟩:=xQ.yV (show T.rds _ _ _ by simpa only[xQ.t,T.rd] using hcs1);have d10:=(HB.out.cell hbw1).trans (hcell1 0 (v0) rfl);rw[show o1+(k * 1+0)=o1+k by omega] at d10;have R10:=xN (T.yM hR10 HB.out);clear hR10;clear hcs1 hcell1;have hq1:b1<wr.heap.size:=zW hbw1 HB.out.size;obtain⟨u0,rfl,hR20⟩:=xQ.yV (show T.rds _ _ _ by simpa only[xQ.t,T.rd] using hcs2);have d20:=(HB.out.cell hbw2).trans (hcell2 0 (u0) rfl);rw[show o2+(k * 1+0)=o2+k by omega] at d20;have R20:=xN (T.yM hR20 HB.out);clear hR20;clear hcs2 hcell2;have hq2:b2<wr.heap.size:=zW hbw2 HB.out.size;obtain⟨va0,vl0,vc0,rfl⟩:=T.xD R10.out;obtain⟨ua0,ul0,uc0,rfl⟩:=T.xD R20.out;go_wp2
   go_region_held3 (fun w'=>w'.cell? ⟨b1,o1+k,none⟩=some (.slice va0 vl0 vc0)∧w'.cell? ⟨b2,o2+k,none⟩=some (.slice ua0 ul0 uc0)) (first|go_keep|(refine⟨(hb3.cell ?_).trans ?_,(hb3.cell ?_).trans ?_⟩<;>first|assumption|(simp[*];done)|(simp;omega))) (first|(go_at_call 140;refine(c_eqTrack x _ _ _ (T.yM R10.out (by first|exact zR|exact Below.drew zR|exact below_drewN zR _)) (T.yM R20.out (by first|exact zR|exact Below.drew zR|exact below_drewN zR _))).mono ?_;rintro e w3 ⟨rfl,hb3⟩))
   have hb4:Below w.heap.size w w3:=yQ HB.out HB.out.size (by first|exact hb3|exact undrew hb3|exact wP hb3);have HB4:=xN hb4;clear hb4 hb3;go_wp2
   go_roundw
   case rel=>exact⟨k+1,by omega,by go_num,(by first|exact HB4.out|exact undrew HB4.out|exact Below.drew HB4.out|exact Below.drew (undrew HB4.out)|exact wP HB4.out|exact below_drewN HB4.out _)⟩
   case measure=>simp[intOf];omega
  ·go_wp2
   go_ret
   exact⟨rfl,HB.out⟩
theorem c_eqNode (x:xR) (v3:Value) (u3:Value) (w:World) (r3:T.rd w (T.ints 2 x.zK) [v3]) (t3:T.rd w (T.ints 2 x.zK) [u3]):
  Calls Tryz.prog 252 #[.agg #[.int .i64 x.zG,.int .i64 x.fA,.int .i64 x.fB,v3],.agg #[.int .i64 x.zG,.int .i64 x.fA,.int .i64 x.fB,u3]] w fun e w'=>e= .returned (.bool true)∧Below w.heap.size w w':=by
 have R3:=xN r3;have Q3:=xN t3;clear r3 t3
 go_enter Tryz.func252,Tryz.ntmps252
 have HB0:=xN (show Below w.heap.size w ((w.alloc (.cells #[.int .i64 x.zG,.int .i64 x.fA,.int .i64 x.fB,v3] 167)).alloc (.cells #[.int .i64 x.zG,.int .i64 x.fA,.int .i64 x.fB,u3] 167)) from(zR.alloc zJ _).alloc zQ _);have HK0:=xN ((Bk.born w 167 #[.int .i64 x.zG,.int .i64 x.fA,.int .i64 x.fB,v3]).alloc (.cells #[.int .i64 x.zG,.int .i64 x.fA,.int .i64 x.fB,u3] 167));have HJ0:=xN (Bk.born1' w (.cells #[.int .i64 x.zG,.int .i64 x.fA,.int .i64 x.fB,v3] 167) 167 #[.int .i64 x.zG,.int .i64 x.fA,.int .i64 x.fB,u3]);go_wp2_with fail
 refine(c_eqIB _ _ x.zK _ (T.yM R3.out HB0.out) (T.yM Q3.out HB0.out)).mono ?_;rintro e w1 ⟨rfl,hb⟩;have HK1:=xN (HK0.out.below hb HK0.out.lt);have HJ1:=xN (HJ0.out.below hb HJ0.out.lt);have HB1:=xN (yQ HB0.out HB0.out.size hb);clear hb;have k1:=HK1.out.cell;have j1:=HJ1.out.cell;go_wp2;go_ret
 exact⟨rfl,HB1.out⟩
theorem c_eqNodeS (v u:Value) (xs:List xR) (w:World) (hr:T.rd w (T.sl 167 4 (xs.map xR.t)) [v]) (ht:T.rd w (T.sl 167 4 (xs.map xR.t)) [u]):
  Calls Tryz.prog 206 #[v,u] w fun e w'=>e= .returned (.bool true)∧Below w.heap.size w w':=by
 obtain⟨A1,cap1,rfl,hl1,hc1,hx1⟩:=T.yV hr;obtain⟨A2,cap2,rfl,hl2,hc2,hx2⟩:=T.yV ht;rw[List.length_map] at hl1 hl2 ⊢;have HX1:=xN hx1;have HX2:=xN hx2;clear hx1 hx2 hr ht
 go_enter Tryz.func206,Tryz.ntmps206
 go_wp2
 go_loopw [5] (fun i wr=> ∃ k:Nat,k≤xs.length∧i= .int .i64 k∧Below w.heap.size w wr) (fun i _=>xs.length - (intOf i).toNat)
 case atStart=>exact⟨0,Nat.zero_le _,rfl,zR⟩
 case round=>
  obtain⟨k,hk,rfl,hb⟩:=hrel;have HB:=xN hb;clear hb;by_cases hlt:k<xs.length
  ·have hgk:=gE hlt
   obtain⟨b1,o1,cs1,rfl,hbw1,hcs1,hcell1⟩:=HX1.out k (xR.t xs[k]) (by rw[List.getElem?_map,hgk];rfl);obtain⟨b2,o2,cs2,rfl,hbw2,hcs2,hcell2⟩:=HX2.out k (xR.t xs[k]) (by rw[List.getElem?_map,hgk];rfl);generalize xs[k]=x at *;clear hgk;obtain⟨v3,rfl,hR13⟩:=xR.yV (show T.rds _ _ _ by simpa only[xR.t,T.rd] using hcs1);have d10:=(HB.out.cell hbw1).trans (hcell1 0 (.int .i64 x.zG) rfl);have d11:=(HB.out.cell hbw1).trans (hcell1 1 (.int .i64 x.fA) rfl);have d12:=(HB.out.cell hbw1).trans (hcell1 2 (.int .i64 x.fB) rfl);have d13:=(HB.out.cell hbw1).trans (hcell1 3 (v3) rfl);rw[show o1+(k * 4+0)=o1+k * 4 by omega] at d10;rw[show o1+(k * 4+1)=o1+k * 4+1 by omega] at d11;rw[show o1+(k * 4+2)=o1+k * 4+2 by omega] at d12;rw[show o1+(k * 4+3)=o1+k * 4+3 by omega] at d13;have R13:=xN (T.yM hR13 HB.out);clear hR13;clear hcs1 hcell1;have hq1:b1<wr.heap.size:=zW hbw1 HB.out.size;obtain⟨u3,rfl,hR23⟩:=xR.yV (show T.rds _ _ _ by simpa only[xR.t,T.rd] using hcs2);have d20:=(HB.out.cell hbw2).trans (hcell2 0 (.int .i64 x.zG) rfl);have d21:=(HB.out.cell hbw2).trans (hcell2 1 (.int .i64 x.fA) rfl);have d22:=(HB.out.cell hbw2).trans (hcell2 2 (.int .i64 x.fB) rfl);have d23:=(HB.out.cell hbw2).trans (hcell2 3 (u3) rfl);rw[show o2+(k * 4+0)=o2+k * 4 by omega] at d20;rw[show o2+(k * 4+1)=o2+k * 4+1 by omega] at d21;rw[show o2+(k * 4+2)=o2+k * 4+2 by omega] at d22;rw[show o2+(k * 4+3)=o2+k * 4+3 by omega] at d23;have R23:=xN (T.yM hR23 HB.out);clear hR23;clear hcs2 hcell2;have hq2:b2<wr.heap.size:=zW hbw2 HB.out.size;obtain⟨va3,vl3,vc3,rfl⟩:=T.xD R13.out;obtain⟨ua3,ul3,uc3,rfl⟩:=T.xD R23.out;go_wp2
   go_region_held3 (fun w'=>w'.cell? ⟨b1,o1+k * 4,none⟩=some (.int .i64 x.zG)∧w'.cell? ⟨b1,o1+k * 4+1,none⟩=some (.int .i64 x.fA)∧w'.cell? ⟨b1,o1+k * 4+2,none⟩=some (.int .i64 x.fB)∧w'.cell? ⟨b1,o1+k * 4+3,none⟩=some (.slice va3 vl3 vc3)∧w'.cell? ⟨b2,o2+k * 4,none⟩=some (.int .i64 x.zG)∧w'.cell? ⟨b2,o2+k * 4+1,none⟩=some (.int .i64 x.fA)∧w'.cell? ⟨b2,o2+k * 4+2,none⟩=some (.int .i64 x.fB)∧w'.cell? ⟨b2,o2+k * 4+3,none⟩=some (.slice ua3 ul3 uc3)) (first|go_keep|(refine⟨(hb3.cell ?_).trans ?_,(hb3.cell ?_).trans ?_,(hb3.cell ?_).trans ?_,(hb3.cell ?_).trans ?_,(hb3.cell ?_).trans ?_,(hb3.cell ?_).trans ?_,(hb3.cell ?_).trans ?_,(hb3.cell ?_).trans ?_⟩<;>first|assumption|(simp[*];done)|(simp;omega))) (first|(go_at_call 252;refine(c_eqNode x _ _ _ (T.yM R13.out (by first|exact zR|exact Below.drew zR|exact below_drewN zR _)) (T.yM R23.out (by first|exact zR|exact Below.drew zR|exact below_drewN zR _))).mono ?_;rintro e w3 ⟨rfl,hb3⟩))
   have hb4:Below w.heap.size w w3:=yQ HB.out HB.out.size (by first|exact hb3|exact undrew hb3|exact wP hb3);have HB4:=xN hb4;clear hb4 hb3;go_wp2
   go_roundw
   case rel=>exact⟨k+1,by omega,by go_num,(by first|exact HB4.out|exact undrew HB4.out|exact Below.drew HB4.out|exact Below.drew (undrew HB4.out)|exact wP HB4.out|exact below_drewN HB4.out _)⟩
   case measure=>simp[intOf];omega
  ·go_wp2
   go_ret
   exact⟨rfl,HB.out⟩
theorem c_eqPatch (x:xO) (v1:Value) (v2:Value) (v3:Value) (u1:Value) (u2:Value) (u3:Value) (w:World) (r1:T.rd w (T.sl 26 1 (x.zV.map (T.ints 2))) [v1]) (r2:T.rd w (T.sl 167 4 (x.zC.map xR.t)) [v2]) (r3:T.rd w (T.ints 2 x.zT) [v3]) (t1:T.rd w (T.sl 26 1 (x.zV.map (T.ints 2))) [u1]) (t2:T.rd w (T.sl 167 4 (x.zC.map xR.t)) [u2]) (t3:T.rd w (T.ints 2 x.zT) [u3]):
  Calls Tryz.prog 141 #[.agg #[.int .i64 x.zS,v1,v2,v3],.agg #[.int .i64 x.zS,u1,u2,u3]] w fun e w'=>e= .returned (.bool true)∧Below w.heap.size w w':=by
 have R1:=xN r1;have Q1:=xN t1;have R2:=xN r2;have Q2:=xN t2;have R3:=xN r3;have Q3:=xN t3;clear r1 t1 r2 t2 r3 t3
 go_enter Tryz.func141,Tryz.ntmps141
 have HB0:=xN (show Below w.heap.size w ((w.alloc (.cells #[.int .i64 x.zS,v1,v2,v3] 108)).alloc (.cells #[.int .i64 x.zS,u1,u2,u3] 108)) from(zR.alloc zJ _).alloc zQ _);have HK0:=xN ((Bk.born w 108 #[.int .i64 x.zS,v1,v2,v3]).alloc (.cells #[.int .i64 x.zS,u1,u2,u3] 108));have HJ0:=xN (Bk.born1' w (.cells #[.int .i64 x.zS,v1,v2,v3] 108) 108 #[.int .i64 x.zS,u1,u2,u3]);go_wp2_with fail
 refine(c_eqInt64SS _ _ x.zV _ (T.yM R1.out HB0.out) (T.yM Q1.out HB0.out)).mono ?_;rintro e w1 ⟨rfl,hb⟩;have HK1:=xN (HK0.out.below hb HK0.out.lt);have HJ1:=xN (HJ0.out.below hb HJ0.out.lt);have HB1:=xN (yQ HB0.out HB0.out.size hb);clear hb;have k1:=HK1.out.cell;have j1:=HJ1.out.cell;go_wp2_with fail
 refine(c_eqNodeS _ _ x.zC _ (T.yM R2.out HB1.out) (T.yM Q2.out HB1.out)).mono ?_;rintro e w2 ⟨rfl,hb⟩;have HK2:=xN (HK1.out.below hb HK1.out.lt);have HJ2:=xN (HJ1.out.below hb HJ1.out.lt);have HB2:=xN (yQ HB1.out HB1.out.size hb);clear hb;have k2:=HK2.out.cell;have j2:=HJ2.out.cell;go_wp2_with fail
 refine(c_eqIB _ _ x.zT _ (T.yM R3.out HB2.out) (T.yM Q3.out HB2.out)).mono ?_;rintro e w3 ⟨rfl,hb⟩;have HK3:=xN (HK2.out.below hb HK2.out.lt);have HJ3:=xN (HJ2.out.below hb HJ2.out.lt);have HB3:=xN (yQ HB2.out HB2.out.size hb);clear hb;have k3:=HK3.out.cell;have j3:=HJ3.out.cell;go_wp2;go_ret
 exact⟨rfl,HB3.out⟩
theorem c_eqPatchS (v u:Value) (xs:List xO) (w:World) (hr:T.rd w (T.sl 108 4 (xs.map xO.t)) [v]) (ht:T.rd w (T.sl 108 4 (xs.map xO.t)) [u]):
  Calls Tryz.prog 75 #[v,u] w fun e w'=>e= .returned (.bool true)∧Below w.heap.size w w':=by
 obtain⟨A1,cap1,rfl,hl1,hc1,hx1⟩:=T.yV hr;obtain⟨A2,cap2,rfl,hl2,hc2,hx2⟩:=T.yV ht;rw[List.length_map] at hl1 hl2 ⊢;have HX1:=xN hx1;have HX2:=xN hx2;clear hx1 hx2 hr ht
 go_enter Tryz.func75,Tryz.ntmps75
 go_wp2
 go_loopw [5] (fun i wr=> ∃ k:Nat,k≤xs.length∧i= .int .i64 k∧Below w.heap.size w wr) (fun i _=>xs.length - (intOf i).toNat)
 case atStart=>exact⟨0,Nat.zero_le _,rfl,zR⟩
 case round=>
  obtain⟨k,hk,rfl,hb⟩:=hrel;have HB:=xN hb;clear hb;by_cases hlt:k<xs.length
  ·have hgk:=gE hlt
   obtain⟨b1,o1,cs1,rfl,hbw1,hcs1,hcell1⟩:=HX1.out k (xO.t xs[k]) (by rw[List.getElem?_map,hgk];rfl);obtain⟨b2,o2,cs2,rfl,hbw2,hcs2,hcell2⟩:=HX2.out k (xO.t xs[k]) (by rw[List.getElem?_map,hgk];rfl);generalize xs[k]=x at *;clear hgk;obtain⟨v1,v2,v3,rfl,hR11,hR12,hR13⟩:=xO.yV (show T.rds _ _ _ by simpa only[xO.t,T.rd] using hcs1);have d10:=(HB.out.cell hbw1).trans (hcell1 0 (.int .i64 x.zS) rfl);have d11:=(HB.out.cell hbw1).trans (hcell1 1 (v1) rfl);have d12:=(HB.out.cell hbw1).trans (hcell1 2 (v2) rfl);have d13:=(HB.out.cell hbw1).trans (hcell1 3 (v3) rfl);rw[show o1+(k * 4+0)=o1+k * 4 by omega] at d10;rw[show o1+(k * 4+1)=o1+k * 4+1 by omega] at d11;rw[show o1+(k * 4+2)=o1+k * 4+2 by omega] at d12;rw[show o1+(k * 4+3)=o1+k * 4+3 by omega] at d13;have R11:=xN (T.yM hR11 HB.out);clear hR11;have R12:=xN (T.yM hR12 HB.out);clear hR12;have R13:=xN (T.yM hR13 HB.out);clear hR13;clear hcs1 hcell1;have hq1:b1<wr.heap.size:=zW hbw1 HB.out.size;obtain⟨u1,u2,u3,rfl,hR21,hR22,hR23⟩:=xO.yV (show T.rds _ _ _ by simpa only[xO.t,T.rd] using hcs2);have d20:=(HB.out.cell hbw2).trans (hcell2 0 (.int .i64 x.zS) rfl);have d21:=(HB.out.cell hbw2).trans (hcell2 1 (u1) rfl);have d22:=(HB.out.cell hbw2).trans (hcell2 2 (u2) rfl);have d23:=(HB.out.cell hbw2).trans (hcell2 3 (u3) rfl);rw[show o2+(k * 4+0)=o2+k * 4 by omega] at d20;rw[show o2+(k * 4+1)=o2+k * 4+1 by omega] at d21;rw[show o2+(k * 4+2)=o2+k * 4+2 by omega] at d22;rw[show o2+(k * 4+3)=o2+k * 4+3 by omega] at d23;have R21:=xN (T.yM hR21 HB.out);clear hR21;have R22:=xN (T.yM hR22 HB.out);clear hR22;have R23:=xN (T.yM hR23 HB.out);clear hR23;clear hcs2 hcell2;have hq2:b2<wr.heap.size:=zW hbw2 HB.out.size;obtain⟨va1,vl1,vc1,rfl⟩:=T.xD R11.out;obtain⟨va2,vl2,vc2,rfl⟩:=T.xD R12.out;obtain⟨va3,vl3,vc3,rfl⟩:=T.xD R13.out;obtain⟨ua1,ul1,uc1,rfl⟩:=T.xD R21.out;obtain⟨ua2,ul2,uc2,rfl⟩:=T.xD R22.out;obtain⟨ua3,ul3,uc3,rfl⟩:=T.xD R23.out;go_wp2
   go_region_held3 (fun w'=>w'.cell? ⟨b1,o1+k * 4,none⟩=some (.int .i64 x.zS)∧w'.cell? ⟨b1,o1+k * 4+1,none⟩=some (.slice va1 vl1 vc1)∧w'.cell? ⟨b1,o1+k * 4+2,none⟩=some (.slice va2 vl2 vc2)∧w'.cell? ⟨b1,o1+k * 4+3,none⟩=some (.slice va3 vl3 vc3)∧w'.cell? ⟨b2,o2+k * 4,none⟩=some (.int .i64 x.zS)∧w'.cell? ⟨b2,o2+k * 4+1,none⟩=some (.slice ua1 ul1 uc1)∧w'.cell? ⟨b2,o2+k * 4+2,none⟩=some (.slice ua2 ul2 uc2)∧w'.cell? ⟨b2,o2+k * 4+3,none⟩=some (.slice ua3 ul3 uc3)) (first|go_keep|(refine⟨(hb3.cell ?_).trans ?_,(hb3.cell ?_).trans ?_,(hb3.cell ?_).trans ?_,(hb3.cell ?_).trans ?_,(hb3.cell ?_).trans ?_,(hb3.cell ?_).trans ?_,(hb3.cell ?_).trans ?_,(hb3.cell ?_).trans ?_⟩<;>first|assumption|(simp[*];done)|(simp;omega))) (first|(go_at_call 141;refine(c_eqPatch x _ _ _ _ _ _ _ (T.yM R11.out (by first|exact zR|exact Below.drew zR|exact below_drewN zR _)) (T.yM R12.out (by first|exact zR|exact Below.drew zR|exact below_drewN zR _)) (T.yM R13.out (by first|exact zR|exact Below.drew zR|exact below_drewN zR _)) (T.yM R21.out (by first|exact zR|exact Below.drew zR|exact below_drewN zR _)) (T.yM R22.out (by first|exact zR|exact Below.drew zR|exact below_drewN zR _)) (T.yM R23.out (by first|exact zR|exact Below.drew zR|exact below_drewN zR _))).mono ?_;rintro e w3 ⟨rfl,hb3⟩))
   have hb4:Below w.heap.size w w3:=yQ HB.out HB.out.size (by first|exact hb3|exact undrew hb3|exact wP hb3);have HB4:=xN hb4;clear hb4 hb3;go_wp2
   go_roundw
   case rel=>exact⟨k+1,by omega,by go_num,(by first|exact HB4.out|exact undrew HB4.out|exact Below.drew HB4.out|exact Below.drew (undrew HB4.out)|exact wP HB4.out|exact below_drewN HB4.out _)⟩
   case measure=>simp[intOf];omega
  ·go_wp2
   go_ret
   exact⟨rfl,HB.out⟩
theorem c_eqSend (x:xV) (w:World):
  Calls Tryz.prog 276 #[.agg #[.int .i64 x.yG,.int .i64 x.yB],.agg #[.int .i64 x.yG,.int .i64 x.yB]] w fun e w'=>e= .returned (.bool true)∧Below w.heap.size w w':=by
 go_enter Tryz.func276,Tryz.ntmps276
 have HB0:=xN (show Below w.heap.size w ((w.alloc (.cells #[.int .i64 x.yG,.int .i64 x.yB] 98)).alloc (.cells #[.int .i64 x.yG,.int .i64 x.yB] 98)) from(zR.alloc zJ _).alloc zQ _);have HK0:=xN ((Bk.born w 98 #[.int .i64 x.yG,.int .i64 x.yB]).alloc (.cells #[.int .i64 x.yG,.int .i64 x.yB] 98));have HJ0:=xN (Bk.born1' w (.cells #[.int .i64 x.yG,.int .i64 x.yB] 98) 98 #[.int .i64 x.yG,.int .i64 x.yB]);go_wp2;go_ret
 exact⟨rfl,HB0.out⟩
theorem c_eqSendS (v u:Value) (xs:List xV) (w:World) (hr:T.rd w (T.sl 98 2 (xs.map xV.t)) [v]) (ht:T.rd w (T.sl 98 2 (xs.map xV.t)) [u]):
  Calls Tryz.prog 253 #[v,u] w fun e w'=>e= .returned (.bool true)∧Below w.heap.size w w':=by
 obtain⟨A1,cap1,rfl,hl1,hc1,hx1⟩:=T.yV hr;obtain⟨A2,cap2,rfl,hl2,hc2,hx2⟩:=T.yV ht;rw[List.length_map] at hl1 hl2 ⊢;have HX1:=xN hx1;have HX2:=xN hx2;clear hx1 hx2 hr ht
 go_enter Tryz.func253,Tryz.ntmps253
 go_wp2
 go_loopw [5] (fun i wr=> ∃ k:Nat,k≤xs.length∧i= .int .i64 k∧Below w.heap.size w wr) (fun i _=>xs.length - (intOf i).toNat)
 case atStart=>exact⟨0,Nat.zero_le _,rfl,zR⟩
 case round=>
  obtain⟨k,hk,rfl,hb⟩:=hrel;have HB:=xN hb;clear hb;by_cases hlt:k<xs.length
  ·have hgk:=gE hlt
   obtain⟨b1,o1,cs1,rfl,hbw1,hcs1,hcell1⟩:=HX1.out k (xV.t xs[k]) (by rw[List.getElem?_map,hgk];rfl);obtain⟨b2,o2,cs2,rfl,hbw2,hcs2,hcell2⟩:=HX2.out k (xV.t xs[k]) (by rw[List.getElem?_map,hgk];rfl);generalize xs[k]=x at *;clear hgk;obtain rfl:=xV.yV (show T.rds _ _ _ by simpa only[xV.t,T.rd] using hcs1);have d10:=(HB.out.cell hbw1).trans (hcell1 0 (.int .i64 x.yG) rfl);have d11:=(HB.out.cell hbw1).trans (hcell1 1 (.int .i64 x.yB) rfl);rw[show o1+(k * 2+0)=o1+k * 2 by omega] at d10;rw[show o1+(k * 2+1)=o1+k * 2+1 by omega] at d11;clear hcs1 hcell1;have hq1:b1<wr.heap.size:=zW hbw1 HB.out.size;obtain rfl:=xV.yV (show T.rds _ _ _ by simpa only[xV.t,T.rd] using hcs2);have d20:=(HB.out.cell hbw2).trans (hcell2 0 (.int .i64 x.yG) rfl);have d21:=(HB.out.cell hbw2).trans (hcell2 1 (.int .i64 x.yB) rfl);rw[show o2+(k * 2+0)=o2+k * 2 by omega] at d20;rw[show o2+(k * 2+1)=o2+k * 2+1 by omega] at d21;clear hcs2 hcell2;have hq2:b2<wr.heap.size:=zW hbw2 HB.out.size;go_wp2
   go_region_held3 (fun w'=>w'.cell? ⟨b1,o1+k * 2,none⟩=some (.int .i64 x.yG)∧w'.cell? ⟨b1,o1+k * 2+1,none⟩=some (.int .i64 x.yB)∧w'.cell? ⟨b2,o2+k * 2,none⟩=some (.int .i64 x.yG)∧w'.cell? ⟨b2,o2+k * 2+1,none⟩=some (.int .i64 x.yB)) (first|go_keep|(refine⟨(hb3.cell ?_).trans ?_,(hb3.cell ?_).trans ?_,(hb3.cell ?_).trans ?_,(hb3.cell ?_).trans ?_⟩<;>first|assumption|(simp[*];done)|(simp;omega))) (first|(go_at_call 276;refine(c_eqSend x _).mono ?_;rintro e w3 ⟨rfl,hb3⟩))
   have hb4:Below w.heap.size w w3:=yQ HB.out HB.out.size (by first|exact hb3|exact undrew hb3|exact wP hb3);have HB4:=xN hb4;clear hb4 hb3;go_wp2
   go_roundw
   case rel=>exact⟨k+1,by omega,by go_num,(by first|exact HB4.out|exact undrew HB4.out|exact Below.drew HB4.out|exact Below.drew (undrew HB4.out)|exact wP HB4.out|exact below_drewN HB4.out _)⟩
   case measure=>simp[intOf];omega
  ·go_wp2
   go_ret
   exact⟨rfl,HB.out⟩
theorem c_eqStrip (x:xP) (v2:Value) (u2:Value) (w:World) (r2:T.rd w (T.sl 98 2 (x.zY.map xV.t)) [v2]) (t2:T.rd w (T.sl 98 2 (x.zY.map xV.t)) [u2]):
  Calls Tryz.prog 207 #[.agg #[.string x.yE,.int .i64 x.zU,v2],.agg #[.string x.yE,.int .i64 x.zU,u2]] w fun e w'=>e= .returned (.bool true)∧Below w.heap.size w w':=by
 have R2:=xN r2;have Q2:=xN t2;clear r2 t2;have hse0:=str_selfT x.yE
 go_enter Tryz.func207,Tryz.ntmps207
 have HB0:=xN (show Below w.heap.size w ((w.alloc (.cells #[.string x.yE,.int .i64 x.zU,v2] 101)).alloc (.cells #[.string x.yE,.int .i64 x.zU,u2] 101)) from(zR.alloc zJ _).alloc zQ _);have HK0:=xN ((Bk.born w 101 #[.string x.yE,.int .i64 x.zU,v2]).alloc (.cells #[.string x.yE,.int .i64 x.zU,u2] 101));have HJ0:=xN (Bk.born1' w (.cells #[.string x.yE,.int .i64 x.zU,v2] 101) 101 #[.string x.yE,.int .i64 x.zU,u2]);go_wp2_with fail
 refine(c_eqSendS _ _ x.zY _ (T.yM R2.out HB0.out) (T.yM Q2.out HB0.out)).mono ?_;rintro e w1 ⟨rfl,hb⟩;have HK1:=xN (HK0.out.below hb HK0.out.lt);have HJ1:=xN (HJ0.out.below hb HJ0.out.lt);have HB1:=xN (yQ HB0.out HB0.out.size hb);clear hb;have k1:=HK1.out.cell;have j1:=HJ1.out.cell;go_wp2;go_ret
 exact⟨rfl,HB1.out⟩
theorem c_eqStripS (v u:Value) (xs:List xP) (w:World) (hr:T.rd w (T.sl 101 3 (xs.map xP.t)) [v]) (ht:T.rd w (T.sl 101 3 (xs.map xP.t)) [u]):
  Calls Tryz.prog 142 #[v,u] w fun e w'=>e= .returned (.bool true)∧Below w.heap.size w w':=by
 obtain⟨A1,cap1,rfl,hl1,hc1,hx1⟩:=T.yV hr;obtain⟨A2,cap2,rfl,hl2,hc2,hx2⟩:=T.yV ht;rw[List.length_map] at hl1 hl2 ⊢;have HX1:=xN hx1;have HX2:=xN hx2;clear hx1 hx2 hr ht
 go_enter Tryz.func142,Tryz.ntmps142
 go_wp2
 go_loopw [5] (fun i wr=> ∃ k:Nat,k≤xs.length∧i= .int .i64 k∧Below w.heap.size w wr) (fun i _=>xs.length - (intOf i).toNat)
 case atStart=>exact⟨0,Nat.zero_le _,rfl,zR⟩
 case round=>
  obtain⟨k,hk,rfl,hb⟩:=hrel;have HB:=xN hb;clear hb;by_cases hlt:k<xs.length
  ·have hgk:=gE hlt
   obtain⟨b1,o1,cs1,rfl,hbw1,hcs1,hcell1⟩:=HX1.out k (xP.t xs[k]) (by rw[List.getElem?_map,hgk];rfl);obtain⟨b2,o2,cs2,rfl,hbw2,hcs2,hcell2⟩:=HX2.out k (xP.t xs[k]) (by rw[List.getElem?_map,hgk];rfl);generalize xs[k]=x at *;clear hgk;obtain⟨v2,rfl,hR12⟩:=xP.yV (show T.rds _ _ _ by simpa only[xP.t,T.rd] using hcs1);have d10:=(HB.out.cell hbw1).trans (hcell1 0 (.string x.yE) rfl);have d11:=(HB.out.cell hbw1).trans (hcell1 1 (.int .i64 x.zU) rfl);have d12:=(HB.out.cell hbw1).trans (hcell1 2 (v2) rfl);rw[show o1+(k * 3+0)=o1+k * 3 by omega] at d10;rw[show o1+(k * 3+1)=o1+k * 3+1 by omega] at d11;rw[show o1+(k * 3+2)=o1+k * 3+2 by omega] at d12;have R12:=xN (T.yM hR12 HB.out);clear hR12;clear hcs1 hcell1;have hq1:b1<wr.heap.size:=zW hbw1 HB.out.size;obtain⟨u2,rfl,hR22⟩:=xP.yV (show T.rds _ _ _ by simpa only[xP.t,T.rd] using hcs2);have d20:=(HB.out.cell hbw2).trans (hcell2 0 (.string x.yE) rfl);have d21:=(HB.out.cell hbw2).trans (hcell2 1 (.int .i64 x.zU) rfl);have d22:=(HB.out.cell hbw2).trans (hcell2 2 (u2) rfl);rw[show o2+(k * 3+0)=o2+k * 3 by omega] at d20;rw[show o2+(k * 3+1)=o2+k * 3+1 by omega] at d21;rw[show o2+(k * 3+2)=o2+k * 3+2 by omega] at d22;have R22:=xN (T.yM hR22 HB.out);clear hR22;clear hcs2 hcell2;have hq2:b2<wr.heap.size:=zW hbw2 HB.out.size;obtain⟨va2,vl2,vc2,rfl⟩:=T.xD R12.out;obtain⟨ua2,ul2,uc2,rfl⟩:=T.xD R22.out;go_wp2
   go_region_held3 (fun w'=>w'.cell? ⟨b1,o1+k * 3,none⟩=some (.string x.yE)∧w'.cell? ⟨b1,o1+k * 3+1,none⟩=some (.int .i64 x.zU)∧w'.cell? ⟨b1,o1+k * 3+2,none⟩=some (.slice va2 vl2 vc2)∧w'.cell? ⟨b2,o2+k * 3,none⟩=some (.string x.yE)∧w'.cell? ⟨b2,o2+k * 3+1,none⟩=some (.int .i64 x.zU)∧w'.cell? ⟨b2,o2+k * 3+2,none⟩=some (.slice ua2 ul2 uc2)) (first|go_keep|(refine⟨(hb3.cell ?_).trans ?_,(hb3.cell ?_).trans ?_,(hb3.cell ?_).trans ?_,(hb3.cell ?_).trans ?_,(hb3.cell ?_).trans ?_,(hb3.cell ?_).trans ?_⟩<;>first|assumption|(simp[*];done)|(simp;omega))) (first|(go_at_call 207;refine(c_eqStrip x _ _ _ (T.yM R12.out (by first|exact zR|exact Below.drew zR|exact below_drewN zR _)) (T.yM R22.out (by first|exact zR|exact Below.drew zR|exact below_drewN zR _))).mono ?_;rintro e w3 ⟨rfl,hb3⟩))
   have hb4:Below w.heap.size w w3:=yQ HB.out HB.out.size (by first|exact hb3|exact undrew hb3|exact wP hb3);have HB4:=xN hb4;clear hb4 hb3;go_wp2
   go_roundw
   case rel=>exact⟨k+1,by omega,by go_num,(by first|exact HB4.out|exact undrew HB4.out|exact Below.drew HB4.out|exact Below.drew (undrew HB4.out)|exact wP HB4.out|exact below_drewN HB4.out _)⟩
   case measure=>simp[intOf];omega
  ·go_wp2
   go_ret
   exact⟨rfl,HB.out⟩
theorem c_eqMixer (x:wG) (v0:Value) (u0:Value) (w:World) (r0:T.rd w (T.sl 101 3 (x.zD.map xP.t)) [v0]) (t0:T.rd w (T.sl 101 3 (x.zD.map xP.t)) [u0]):
  Calls Tryz.prog 76 #[.agg #[v0],.agg #[u0]] w fun e w'=>e= .returned (.bool true)∧Below w.heap.size w w':=by
 have R0:=xN r0;have Q0:=xN t0;clear r0 t0
 go_enter Tryz.func76,Tryz.ntmps76
 have HB0:=xN (show Below w.heap.size w ((w.alloc (.cells #[v0] 30)).alloc (.cells #[u0] 30)) from(zR.alloc zJ _).alloc zQ _);have HK0:=xN ((Bk.born w 30 #[v0]).alloc (.cells #[u0] 30));have HJ0:=xN (Bk.born1' w (.cells #[v0] 30) 30 #[u0]);go_wp2_with fail
 refine(c_eqStripS _ _ x.zD _ (T.yM R0.out HB0.out) (T.yM Q0.out HB0.out)).mono ?_;rintro e w1 ⟨rfl,hb⟩;have HK1:=xN (HK0.out.below hb HK0.out.lt);have HJ1:=xN (HJ0.out.below hb HJ0.out.lt);have HB1:=xN (yQ HB0.out HB0.out.size hb);clear hb;have k1:=HK1.out.cell;have j1:=HJ1.out.cell;go_wp2;go_ret
 exact⟨rfl,HB1.out⟩
theorem c_eqSession (x:xS) (v1:Value) (v2:Value) (v3:Value) (v4:Value) (v5:Value) (u1:Value) (u2:Value) (u3:Value) (u4:Value) (u5:Value) (w:World) (r1:T.rd w (T.sl 26 1 (x.zI.map (T.ints 2))) [v1]) (r2:T.rd w (T.sl 96 1 (x.zL.map xQ.t)) [v2]) (r3:T.rd w (T.ints 2 x.zX) [v3]) (r4:T.rd w (T.sl 108 4 (x.zO.map xO.t)) [v4]) (r5:T.rd w (T.sl 101 3 (x.zH.zD.map xP.t)) [v5]) (t1:T.rd w (T.sl 26 1 (x.zI.map (T.ints 2))) [u1]) (t2:T.rd w (T.sl 96 1 (x.zL.map xQ.t)) [u2]) (t3:T.rd w (T.ints 2 x.zX) [u3]) (t4:T.rd w (T.sl 108 4 (x.zO.map xO.t)) [u4]) (t5:T.rd w (T.sl 101 3 (x.zH.zD.map xP.t)) [u5]):
  Calls Tryz.prog 28 #[.agg #[.int .i64 x.zF,v1,v2,v3,v4,v5],.agg #[.int .i64 x.zF,u1,u2,u3,u4,u5]] w fun e w'=>e= .returned (.bool true)∧Below w.heap.size w w':=by
 have R1:=xN r1;have Q1:=xN t1;have R2:=xN r2;have Q2:=xN t2;have R3:=xN r3;have Q3:=xN t3;have R4:=xN r4;have Q4:=xN t4;have R5:=xN r5;have Q5:=xN t5;clear r1 t1 r2 t2 r3 t3 r4 t4 r5 t5
 go_enter Tryz.func28,Tryz.ntmps28
 have HB0:=xN (show Below w.heap.size w ((w.alloc (.cells #[.int .i64 x.zF,v1,v2,v3,v4,v5] 32)).alloc (.cells #[.int .i64 x.zF,u1,u2,u3,u4,u5] 32)) from(zR.alloc zJ _).alloc zQ _);have HK0:=xN ((Bk.born w 32 #[.int .i64 x.zF,v1,v2,v3,v4,v5]).alloc (.cells #[.int .i64 x.zF,u1,u2,u3,u4,u5] 32));have HJ0:=xN (Bk.born1' w (.cells #[.int .i64 x.zF,v1,v2,v3,v4,v5] 32) 32 #[.int .i64 x.zF,u1,u2,u3,u4,u5]);go_wp2_with fail
 refine(c_eqInt64SS _ _ x.zI _ (T.yM R1.out HB0.out) (T.yM Q1.out HB0.out)).mono ?_;rintro e w1 ⟨rfl,hb⟩;have HK1:=xN (HK0.out.below hb HK0.out.lt);have HJ1:=xN (HJ0.out.below hb HJ0.out.lt);have HB1:=xN (yQ HB0.out HB0.out.size hb);clear hb;have k1:=HK1.out.cell;have j1:=HJ1.out.cell;go_wp2_with fail
 refine(c_eqTrackS _ _ x.zL _ (T.yM R2.out HB1.out) (T.yM Q2.out HB1.out)).mono ?_;rintro e w2 ⟨rfl,hb⟩;have HK2:=xN (HK1.out.below hb HK1.out.lt);have HJ2:=xN (HJ1.out.below hb HJ1.out.lt);have HB2:=xN (yQ HB1.out HB1.out.size hb);clear hb;have k2:=HK2.out.cell;have j2:=HJ2.out.cell;go_wp2_with fail
 refine(c_eqIB _ _ x.zX _ (T.yM R3.out HB2.out) (T.yM Q3.out HB2.out)).mono ?_;rintro e w3 ⟨rfl,hb⟩;have HK3:=xN (HK2.out.below hb HK2.out.lt);have HJ3:=xN (HJ2.out.below hb HJ2.out.lt);have HB3:=xN (yQ HB2.out HB2.out.size hb);clear hb;have k3:=HK3.out.cell;have j3:=HJ3.out.cell;go_wp2_with fail
 refine(c_eqPatchS _ _ x.zO _ (T.yM R4.out HB3.out) (T.yM Q4.out HB3.out)).mono ?_;rintro e w4 ⟨rfl,hb⟩;have HK4:=xN (HK3.out.below hb HK3.out.lt);have HJ4:=xN (HJ3.out.below hb HJ3.out.lt);have HB4:=xN (yQ HB3.out HB3.out.size hb);clear hb;have k4:=HK4.out.cell;have j4:=HJ4.out.cell;go_wp2_with fail
 refine(c_eqMixer x.zH v5 u5 _ (T.yM R5.out HB4.out) (T.yM Q5.out HB4.out)).mono ?_;rintro e w5 ⟨rfl,hb⟩;have HK5:=xN (HK4.out.below hb HK4.out.lt);have HJ5:=xN (HJ4.out.below hb HJ4.out.lt);have HB5:=xN (yQ HB4.out HB4.out.size hb);clear hb;have k5:=HK5.out.cell;have j5:=HJ5.out.cell;go_wp2;go_ret
 exact⟨rfl,HB5.out⟩
theorem c_eqCache (x:xX) (v1:Value) (v2:Value) (v3:Value) (v4:Value) (v5:Value) (v6:Value) (v7:Value) (u1:Value) (u2:Value) (u3:Value) (u4:Value) (u5:Value) (u6:Value) (u7:Value) (w:World) (r1:T.rd w (T.sl 26 1 (x.zB.zI.map (T.ints 2))) [v1]) (r2:T.rd w (T.sl 96 1 (x.zB.zL.map xQ.t)) [v2]) (r3:T.rd w (T.ints 2 x.zB.zX) [v3]) (r4:T.rd w (T.sl 108 4 (x.zB.zO.map xO.t)) [v4]) (r5:T.rd w (T.sl 101 3 (x.zB.zH.zD.map xP.t)) [v5]) (r6:T.rd w (T.ints 2 x.yF) [v6]) (r7:T.rd w (T.ints 2 x.yC) [v7]) (t1:T.rd w (T.sl 26 1 (x.zB.zI.map (T.ints 2))) [u1]) (t2:T.rd w (T.sl 96 1 (x.zB.zL.map xQ.t)) [u2]) (t3:T.rd w (T.ints 2 x.zB.zX) [u3]) (t4:T.rd w (T.sl 108 4 (x.zB.zO.map xO.t)) [u4]) (t5:T.rd w (T.sl 101 3 (x.zB.zH.zD.map xP.t)) [u5]) (t6:T.rd w (T.ints 2 x.yF) [u6]) (t7:T.rd w (T.ints 2 x.yC) [u7]):
  Calls Tryz.prog 23 #[.agg #[.int .i64 x.zB.zF,v1,v2,v3,v4,v5,v6,v7],.agg #[.int .i64 x.zB.zF,u1,u2,u3,u4,u5,u6,u7]] w fun e w'=>e= .returned (.bool true)∧Below w.heap.size w w':=by
 have R1:=xN r1;have Q1:=xN t1;have R2:=xN r2;have Q2:=xN t2;have R3:=xN r3;have Q3:=xN t3;have R4:=xN r4;have Q4:=xN t4;have R5:=xN r5;have Q5:=xN t5;have R6:=xN r6;have Q6:=xN t6;have R7:=xN r7;have Q7:=xN t7;clear r1 t1 r2 t2 r3 t3 r4 t4 r5 t5 r6 t6 r7 t7
 go_enter Tryz.func23,Tryz.ntmps23
 have HB0:=xN (show Below w.heap.size w ((w.alloc (.cells #[.int .i64 x.zB.zF,v1,v2,v3,v4,v5,v6,v7] 65)).alloc (.cells #[.int .i64 x.zB.zF,u1,u2,u3,u4,u5,u6,u7] 65)) from(zR.alloc zJ _).alloc zQ _);have HK0:=xN ((Bk.born w 65 #[.int .i64 x.zB.zF,v1,v2,v3,v4,v5,v6,v7]).alloc (.cells #[.int .i64 x.zB.zF,u1,u2,u3,u4,u5,u6,u7] 65));have HJ0:=xN (Bk.born1' w (.cells #[.int .i64 x.zB.zF,v1,v2,v3,v4,v5,v6,v7] 65) 65 #[.int .i64 x.zB.zF,u1,u2,u3,u4,u5,u6,u7]);go_wp2_with fail
 refine(c_eqSession x.zB v1 v2 v3 v4 v5 u1 u2 u3 u4 u5 _ (T.yM R1.out HB0.out) (T.yM R2.out HB0.out) (T.yM R3.out HB0.out) (T.yM R4.out HB0.out) (T.yM R5.out HB0.out) (T.yM Q1.out HB0.out) (T.yM Q2.out HB0.out) (T.yM Q3.out HB0.out) (T.yM Q4.out HB0.out) (T.yM Q5.out HB0.out)).mono ?_;rintro e w1 ⟨rfl,hb⟩;have HK1:=xN (HK0.out.below hb HK0.out.lt);have HJ1:=xN (HJ0.out.below hb HJ0.out.lt);have HB1:=xN (yQ HB0.out HB0.out.size hb);clear hb;have k1:=HK1.out.cell;have j1:=HJ1.out.cell;go_wp2_with fail
 refine(c_eqIB _ _ x.yF _ (T.yM R6.out HB1.out) (T.yM Q6.out HB1.out)).mono ?_;rintro e w2 ⟨rfl,hb⟩;have HK2:=xN (HK1.out.below hb HK1.out.lt);have HJ2:=xN (HJ1.out.below hb HJ1.out.lt);have HB2:=xN (yQ HB1.out HB1.out.size hb);clear hb;have k2:=HK2.out.cell;have j2:=HJ2.out.cell;go_wp2_with fail
 refine(c_eqIB _ _ x.yC _ (T.yM R7.out HB2.out) (T.yM Q7.out HB2.out)).mono ?_;rintro e w3 ⟨rfl,hb⟩;have HK3:=xN (HK2.out.below hb HK2.out.lt);have HJ3:=xN (HJ2.out.below hb HJ2.out.lt);have HB3:=xN (yQ HB2.out HB2.out.size hb);clear hb;have k3:=HK3.out.cell;have j3:=HJ3.out.cell;go_wp2;go_ret
 exact⟨rfl,HB3.out⟩
end Go.Proofs.YtoibekfhepnedaaGreat
