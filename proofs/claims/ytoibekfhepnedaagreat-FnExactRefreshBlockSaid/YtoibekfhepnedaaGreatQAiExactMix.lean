/- Contracts: marks of nested data, and marks that are still there. -/
import Derived.Test.YtoibekfhepnedaaGreatQAgExactMix
import Derived.Test.YtoibekfhepnedaaGreatQAhExactMix
set_option linter.unusedVariables false
set_option linter.unusedSimpArgs false
set_option maxHeartbeats 1000000
set_option maxRecDepth 20000
namespace Go.Proofs.YtoibekfhepnedaaGreat
open Go.RowKit
theorem vJz (v:Value) (n m:Nat) (w:World) (hr:T.rd w (T.ints 2 (marks m n)) [v]) (hm:m+n≤4611686018427387904):
  Calls Tryz.prog 83 #[v,.int .i64 (m:Int)] w fun e w'=>e= .returned (.int .i64 ((m+n:Nat):Int))∧Below w.heap.size w w':=
 (c_heldI v n m w (T.xB.1 hr) hm).mono fun e w' ⟨h1,h2⟩=>⟨h1,h2 ▸ zR⟩
theorem zWy (v:Value) (xs:List (List Int)) (m:Nat) (w:World) (h0:0<m) (hm:m+wR List.length xs≤4611686018427387904) (hr:T.rd w (T.sl 26 1 ((mkL (fun l k=>marks k l.length) List.length xs m).map (T.ints 2))) [v]):
  Calls Tryz.prog 146 #[v,.int .i64 (m:Int)] w fun e w'=>e= .returned (.int .i64 ((m+wR List.length xs:Nat):Int))∧Below w.heap.size w w':=by
 obtain⟨A,cap,rfl,hl,hc,hx⟩:=T.yV hr;rw[List.length_map,uH] at hl ⊢;have HX:=xN hx;clear hx hr
 go_enter Tryz.func146,Tryz.ntmps146
 go_wp2
 go_loopw [1,5] (fun t iv wr=> ∃ k j:Nat,k≤xs.length∧iv= .int .i64 (k:Int)∧t= .int .i64 (j:Int)∧j=m+wR List.length (xs.take k)∧Below w.heap.size w wr) (fun _ iv _=>xs.length - (intOf iv).toNat)
 case atStart=>exact⟨0,m,Nat.zero_le _,rfl,rfl,by simp[wR],zR⟩
 case round=>
  obtain⟨k,j,hk,rfl,rfl,hj,hb⟩:=hrel;have HB:=xN hb;clear hb;by_cases hlt:k<xs.length
  ·have hgk:=gE hlt
   have hcl:=vE (c:=List.length) hgk;have hle:=zPz (c:=List.length) xs (k+1);have hat:=uNz (m:=(fun l k=>marks k l.length)) (c:=List.length) (k:=m) hgk;rw[←hj] at hat;generalize xs[k]=x at *;have HGK:=xN hgk;have HJ:=xN hj;clear hgk;have hxb:j+List.length x≤4611686018427387904:=by omega
   have hj0:0<j:=by omega
   clear hcl hle hj;obtain⟨b,off,cs,rfl,hbw,hcs,hcell⟩:=HX.out k (T.ints 2 (marks j x.length)) (by rw[List.getElem?_map,hat];rfl);obtain⟨v3,rfl⟩:=T.rd_one hcs;have d0:=(HB.out.cell hbw).trans (hcell 0 v3 rfl);rw[Nat.mul_one,Nat.add_zero] at d0;have R0:=xN (T.yM hcs HB.out);clear hcs hcell hat;go_wp2_with fail
   refine(vJz _ x.length j _ R0.out zM).mono ?_;rintro e w3 ⟨rfl,hb3⟩;have HB1:=xN (yQ HB.out HB.out.size hb3);clear hb3;go_wp2
   go_roundw
   case rel=>exact⟨k+1,j+x.length,by omega,by go_num,by rfl,by rw[vE HGK.out,HJ.out];omega,HB1.out⟩
   case measure=>simp[intOf];omega
  ·obtain rfl:k=xs.length:=by omega
   go_wp2;go_ret
   rw[List.take_length] at hj;exact⟨by rw[hj];rfl,HB.out⟩
theorem c_heldClipS (v:Value) (xs:List xU) (m:Nat) (w:World) (h0:0<m) (hm:m+wR xU.cnt xs≤4611686018427387904) (hr:T.rd w (T.sl 39 5 ((mkL xU.mkd xU.cnt xs m).map xU.t)) [v]):
  Calls Tryz.prog 210 #[v,.int .i64 (m:Int)] w fun e w'=>e= .returned (.int .i64 ((m+wR xU.cnt xs:Nat):Int))∧Below w.heap.size w w':=by
 obtain⟨A,cap,rfl,hl,hc,hx⟩:=T.yV hr;rw[List.length_map,uH] at hl ⊢;have HX:=xN hx;clear hx hr
 go_enter Tryz.func210,Tryz.ntmps210
 go_wp2
 go_loopw [1,5] (fun t iv wr=> ∃ k j:Nat,k≤xs.length∧iv= .int .i64 (k:Int)∧t= .int .i64 (j:Int)∧j=m+wR xU.cnt (xs.take k)∧Below w.heap.size w wr) (fun _ iv _=>xs.length - (intOf iv).toNat)
 case atStart=>exact⟨0,m,Nat.zero_le _,rfl,rfl,by simp[wR],zR⟩
 case round=>
  obtain⟨k,j,hk,rfl,rfl,hj,hb⟩:=hrel;have HB:=xN hb;clear hb;by_cases hlt:k<xs.length
  ·have hgk:=gE hlt
   have hcl:=vE (c:=xU.cnt) hgk;have hle:=zPz (c:=xU.cnt) xs (k+1);have hat:=uNz (m:=xU.mkd) (c:=xU.cnt) (k:=m) hgk;rw[←hj] at hat;generalize xs[k]=x at *;have HGK:=xN hgk;have HJ:=xN hj;clear hgk;have hxb:j+xU.cnt x≤4611686018427387904:=by omega
   have hj0:0<j:=by omega
   clear hcl hle hj;obtain⟨b,off,cs,rfl,hbw,hcs,hcell⟩:=HX.out k (xU.mkd x j).t (by rw[List.getElem?_map,hat];rfl);obtain rfl:=xU.yV (show T.rds _ _ _ by simpa only[xU.t,T.rd] using hcs);have d0:=(HB.out.cell hbw).trans (hcell 0 (.int .i64 (xU.mkd x j).yD) rfl);have d1:=(HB.out.cell hbw).trans (hcell 1 (.int .i64 (xU.mkd x j).zK) rfl);have d2:=(HB.out.cell hbw).trans (hcell 2 (.int .i64 (xU.mkd x j).zF) rfl);have d3:=(HB.out.cell hbw).trans (hcell 3 (.int .i64 (xU.mkd x j).yH) rfl);have d4:=(HB.out.cell hbw).trans (hcell 4 (.int .i64 (xU.mkd x j).yB) rfl);rw[show off+(k * 5+0)=off+k * 5 by omega] at d0;rw[show off+(k * 5+1)=off+k * 5+1 by omega] at d1;rw[show off+(k * 5+2)=off+k * 5+2 by omega] at d2;rw[show off+(k * 5+3)=off+k * 5+3 by omega] at d3;rw[show off+(k * 5+4)=off+k * 5+4 by omega] at d4;clear hcs hcell;clear hat;replace d0:wr.cell? ⟨b,off+k * 5,none⟩=some (.int .i64 (j:Int)):=d0;replace d1:wr.cell? ⟨b,off+k * 5+1,none⟩=some (.int .i64 ((j:Int)+1)):=d1;replace d2:wr.cell? ⟨b,off+k * 5+2,none⟩=some (.int .i64 ((j:Int)+2)):=d2;replace d3:wr.cell? ⟨b,off+k * 5+3,none⟩=some (.int .i64 ((j:Int)+3)):=d3;replace d4:wr.cell? ⟨b,off+k * 5+4,none⟩=some (.int .i64 ((j:Int)+4)):=d4;have hbr:b<wr.heap.size:=zW hbw HB.out.size;go_wp2
   go_roundw
   case rel=>exact⟨k+1,j+xU.cnt x,by omega,by go_num,by unfold xU.cnt;go_num,by rw[vE HGK.out,HJ.out];omega,HB.out⟩
   case measure=>simp[intOf];omega
  ·obtain rfl:k=xs.length:=by omega
   go_wp2;go_ret
   rw[List.take_length] at hj;exact⟨by rw[hj];rfl,HB.out⟩
theorem c_heldTrackS (v:Value) (xs:List xQ) (m:Nat) (w:World) (h0:0<m) (hm:m+wR xQ.cnt xs≤4611686018427387904) (hr:T.rd w (T.sl 96 1 ((mkL xQ.mkd xQ.cnt xs m).map xQ.t)) [v]):
  Calls Tryz.prog 147 #[v,.int .i64 (m:Int)] w fun e w'=>e= .returned (.int .i64 ((m+wR xQ.cnt xs:Nat):Int))∧Below w.heap.size w w':=by
 obtain⟨A,cap,rfl,hl,hc,hx⟩:=T.yV hr;rw[List.length_map,uH] at hl ⊢;have HX:=xN hx;clear hx hr
 go_enter Tryz.func147,Tryz.ntmps147
 go_wp2
 go_loopw [1,5] (fun t iv wr=> ∃ k j:Nat,k≤xs.length∧iv= .int .i64 (k:Int)∧t= .int .i64 (j:Int)∧j=m+wR xQ.cnt (xs.take k)∧Below w.heap.size w wr) (fun _ iv _=>xs.length - (intOf iv).toNat)
 case atStart=>exact⟨0,m,Nat.zero_le _,rfl,rfl,by simp[wR],zR⟩
 case round=>
  obtain⟨k,j,hk,rfl,rfl,hj,hb⟩:=hrel;have HB:=xN hb;clear hb;by_cases hlt:k<xs.length
  ·have hgk:=gE hlt
   have hcl:=vE (c:=xQ.cnt) hgk;have hle:=zPz (c:=xQ.cnt) xs (k+1);have hat:=uNz (m:=xQ.mkd) (c:=xQ.cnt) (k:=m) hgk;rw[←hj] at hat;generalize xs[k]=x at *;have HGK:=xN hgk;have HJ:=xN hj;clear hgk;have hxb:j+xQ.cnt x≤4611686018427387904:=by omega
   have hj0:0<j:=by omega
   clear hcl hle hj;obtain⟨b,off,cs,rfl,hbw,hcs,hcell⟩:=HX.out k (xQ.mkd x j).t (by rw[List.getElem?_map,hat];rfl);obtain⟨v0,rfl,hR0⟩:=xQ.yV (show T.rds _ _ _ by simpa only[xQ.t,T.rd] using hcs);have d0:=(HB.out.cell hbw).trans (hcell 0 (v0) rfl);rw[show off+(k * 1+0)=off+k by omega] at d0;have R0:=xN (T.yM hR0 HB.out);clear hR0;clear hcs hcell;clear hat;replace d0:wr.cell? ⟨b,off+k,none⟩=some (v0):=d0;have hbr:b<wr.heap.size:=zW hbw HB.out.size;obtain⟨va0,vl0,vc0,rfl⟩:=T.xD R0.out;go_wp2_with fail
   refine(c_heldClipS _ x.zZ (j) _ zM (by unfold xQ.cnt at hxb;omega) (T.yM R0.out zR)).mono ?_;rintro e w3 ⟨rfl,hb3⟩;have HC1:=xN (hb3);have HB1:=xN (yQ HB.out HB.out.size hb3);have hsz1:=hb3.size;clear hb3;go_wp2
   go_roundw
   case rel=>exact⟨k+1,j+xQ.cnt x,by omega,by go_num,by unfold xQ.cnt;go_num,by rw[vE HGK.out,HJ.out];omega,HB1.out⟩
   case measure=>simp[intOf];omega
  ·obtain rfl:k=xs.length:=by omega
   go_wp2;go_ret
   rw[List.take_length] at hj;exact⟨by rw[hj];rfl,HB.out⟩
theorem c_heldNodeS (v:Value) (xs:List xR) (m:Nat) (w:World) (h0:0<m) (hm:m+wR xR.cnt xs≤4611686018427387904) (hr:T.rd w (T.sl 167 4 ((mkL xR.mkd xR.cnt xs m).map xR.t)) [v]):
  Calls Tryz.prog 211 #[v,.int .i64 (m:Int)] w fun e w'=>e= .returned (.int .i64 ((m+wR xR.cnt xs:Nat):Int))∧Below w.heap.size w w':=by
 obtain⟨A,cap,rfl,hl,hc,hx⟩:=T.yV hr;rw[List.length_map,uH] at hl ⊢;have HX:=xN hx;clear hx hr
 go_enter Tryz.func211,Tryz.ntmps211
 go_wp2
 go_loopw [1,5] (fun t iv wr=> ∃ k j:Nat,k≤xs.length∧iv= .int .i64 (k:Int)∧t= .int .i64 (j:Int)∧j=m+wR xR.cnt (xs.take k)∧Below w.heap.size w wr) (fun _ iv _=>xs.length - (intOf iv).toNat)
 case atStart=>exact⟨0,m,Nat.zero_le _,rfl,rfl,by simp[wR],zR⟩
 case round=>
  obtain⟨k,j,hk,rfl,rfl,hj,hb⟩:=hrel;have HB:=xN hb;clear hb;by_cases hlt:k<xs.length
  ·have hgk:=gE hlt
   have hcl:=vE (c:=xR.cnt) hgk;have hle:=zPz (c:=xR.cnt) xs (k+1);have hat:=uNz (m:=xR.mkd) (c:=xR.cnt) (k:=m) hgk;rw[←hj] at hat;generalize xs[k]=x at *;have HGK:=xN hgk;have HJ:=xN hj;clear hgk;have hxb:j+xR.cnt x≤4611686018427387904:=by omega
   have hj0:0<j:=by omega
   clear hcl hle hj;obtain⟨b,off,cs,rfl,hbw,hcs,hcell⟩:=HX.out k (xR.mkd x j).t (by rw[List.getElem?_map,hat];rfl);obtain⟨v3,rfl,hR3⟩:=xR.yV (show T.rds _ _ _ by simpa only[xR.t,T.rd] using hcs);have d0:=(HB.out.cell hbw).trans (hcell 0 (.int .i64 (xR.mkd x j).zG) rfl);have d1:=(HB.out.cell hbw).trans (hcell 1 (.int .i64 (xR.mkd x j).fA) rfl);have d2:=(HB.out.cell hbw).trans (hcell 2 (.int .i64 (xR.mkd x j).fB) rfl);have d3:=(HB.out.cell hbw).trans (hcell 3 (v3) rfl);rw[show off+(k * 4+0)=off+k * 4 by omega] at d0;rw[show off+(k * 4+1)=off+k * 4+1 by omega] at d1;rw[show off+(k * 4+2)=off+k * 4+2 by omega] at d2;rw[show off+(k * 4+3)=off+k * 4+3 by omega] at d3;have R3:=xN (T.yM hR3 HB.out);clear hR3;clear hcs hcell;clear hat;replace d0:wr.cell? ⟨b,off+k * 4,none⟩=some (.int .i64 (j:Int)):=d0;replace d1:wr.cell? ⟨b,off+k * 4+1,none⟩=some (.int .i64 ((j:Int)+1)):=d1;replace d2:wr.cell? ⟨b,off+k * 4+2,none⟩=some (.int .i64 ((j:Int)+2)):=d2;replace d3:wr.cell? ⟨b,off+k * 4+3,none⟩=some (v3):=d3;have hbr:b<wr.heap.size:=zW hbw HB.out.size;obtain⟨va3,vl3,vc3,rfl⟩:=T.xD R3.out;go_wp2_with fail
   refine(vJz _ x.zK.length (j+3) _ (T.yM R3.out zR) (by unfold xR.cnt at hxb;omega)).mono ?_;rintro e w3 ⟨rfl,hb3⟩;have HC1:=xN (hb3);have HB1:=xN (yQ HB.out HB.out.size hb3);have hsz1:=hb3.size;clear hb3;go_wp2
   go_roundw
   case rel=>exact⟨k+1,j+xR.cnt x,by omega,by go_num,by unfold xR.cnt;go_num,by rw[vE HGK.out,HJ.out];omega,HB1.out⟩
   case measure=>simp[intOf];omega
  ·obtain rfl:k=xs.length:=by omega
   go_wp2;go_ret
   rw[List.take_length] at hj;exact⟨by rw[hj];rfl,HB.out⟩
theorem c_heldPatchS (v:Value) (xs:List xO) (m:Nat) (w:World) (h0:0<m) (hm:m+wR xO.cnt xs≤4611686018427387904) (hr:T.rd w (T.sl 108 4 ((mkL xO.mkd xO.cnt xs m).map xO.t)) [v]):
  Calls Tryz.prog 148 #[v,.int .i64 (m:Int)] w fun e w'=>e= .returned (.int .i64 ((m+wR xO.cnt xs:Nat):Int))∧Below w.heap.size w w':=by
 obtain⟨A,cap,rfl,hl,hc,hx⟩:=T.yV hr;rw[List.length_map,uH] at hl ⊢;have HX:=xN hx;clear hx hr
 go_enter Tryz.func148,Tryz.ntmps148
 go_wp2
 go_loopw [1,5] (fun t iv wr=> ∃ k j:Nat,k≤xs.length∧iv= .int .i64 (k:Int)∧t= .int .i64 (j:Int)∧j=m+wR xO.cnt (xs.take k)∧Below w.heap.size w wr) (fun _ iv _=>xs.length - (intOf iv).toNat)
 case atStart=>exact⟨0,m,Nat.zero_le _,rfl,rfl,by simp[wR],zR⟩
 case round=>
  obtain⟨k,j,hk,rfl,rfl,hj,hb⟩:=hrel;have HB:=xN hb;clear hb;by_cases hlt:k<xs.length
  ·have hgk:=gE hlt
   have hcl:=vE (c:=xO.cnt) hgk;have hle:=zPz (c:=xO.cnt) xs (k+1);have hat:=uNz (m:=xO.mkd) (c:=xO.cnt) (k:=m) hgk;rw[←hj] at hat;generalize xs[k]=x at *;have HGK:=xN hgk;have HJ:=xN hj;clear hgk;have hxb:j+xO.cnt x≤4611686018427387904:=by omega
   have hj0:0<j:=by omega
   clear hcl hle hj;obtain⟨b,off,cs,rfl,hbw,hcs,hcell⟩:=HX.out k (xO.mkd x j).t (by rw[List.getElem?_map,hat];rfl);obtain⟨v1,v2,v3,rfl,hR1,hR2,hR3⟩:=xO.yV (show T.rds _ _ _ by simpa only[xO.t,T.rd] using hcs);have d0:=(HB.out.cell hbw).trans (hcell 0 (.int .i64 (xO.mkd x j).zS) rfl);have d1:=(HB.out.cell hbw).trans (hcell 1 (v1) rfl);have d2:=(HB.out.cell hbw).trans (hcell 2 (v2) rfl);have d3:=(HB.out.cell hbw).trans (hcell 3 (v3) rfl);rw[show off+(k * 4+0)=off+k * 4 by omega] at d0;rw[show off+(k * 4+1)=off+k * 4+1 by omega] at d1;rw[show off+(k * 4+2)=off+k * 4+2 by omega] at d2;rw[show off+(k * 4+3)=off+k * 4+3 by omega] at d3;have R1:=xN (T.yM hR1 HB.out);clear hR1;have R2:=xN (T.yM hR2 HB.out);clear hR2;have R3:=xN (T.yM hR3 HB.out);clear hR3;clear hcs hcell;clear hat;replace d0:wr.cell? ⟨b,off+k * 4,none⟩=some (.int .i64 (j:Int)):=d0;replace d1:wr.cell? ⟨b,off+k * 4+1,none⟩=some (v1):=d1;replace d2:wr.cell? ⟨b,off+k * 4+2,none⟩=some (v2):=d2;replace d3:wr.cell? ⟨b,off+k * 4+3,none⟩=some (v3):=d3;have hbr:b<wr.heap.size:=zW hbw HB.out.size;obtain⟨va1,vl1,vc1,rfl⟩:=T.xD R1.out;obtain⟨va2,vl2,vc2,rfl⟩:=T.xD R2.out;obtain⟨va3,vl3,vc3,rfl⟩:=T.xD R3.out;go_wp2_with fail
   refine(zWy _ x.zV (j+1) _ zM (by unfold xO.cnt at hxb;omega) (T.yM R1.out zR)).mono ?_;rintro e w3 ⟨rfl,hb3⟩;have e1_2:=(hb3.cell (p:=⟨b,off+k * 4+2,none⟩) hbr).trans d2;have e1_3:=(hb3.cell (p:=⟨b,off+k * 4+3,none⟩) hbr).trans d3;have HC1:=xN (hb3);have HB1:=xN (yQ HB.out HB.out.size hb3);have hsz1:=hb3.size;clear hb3;go_wp2_with fail
   refine(c_heldNodeS _ x.zC (j+1+wR List.length x.zV) _ zM (by unfold xO.cnt at hxb;omega) (T.yM R2.out (show Below wr.heap.size wr w3 from HC1.out))).mono ?_;rintro e w4 ⟨rfl,hb3⟩;have e2_3:=(hb3.cell (p:=⟨b,off+k * 4+3,none⟩) (by simp;omega)).trans e1_3;have HC2:=xN (yQ HC1.out HC1.out.size hb3);have HB2:=xN (yQ HB1.out HB1.out.size hb3);have hsz2:=hb3.size;clear hb3;go_wp2_with fail
   refine(vJz _ x.zT.length (j+1+wR List.length x.zV+wR xR.cnt x.zC) _ (T.yM R3.out (show Below wr.heap.size wr w4 from HC2.out)) (by unfold xO.cnt at hxb;omega)).mono ?_;rintro e w5 ⟨rfl,hb3⟩;have HC3:=xN (yQ HC2.out HC2.out.size hb3);have HB3:=xN (yQ HB2.out HB2.out.size hb3);have hsz3:=hb3.size;clear hb3;go_wp2
   go_roundw
   case rel=>exact⟨k+1,j+xO.cnt x,by omega,by go_num,by unfold xO.cnt;go_num,by rw[vE HGK.out,HJ.out];omega,HB3.out⟩
   case measure=>simp[intOf];omega
  ·obtain rfl:k=xs.length:=by omega
   go_wp2;go_ret
   rw[List.take_length] at hj;exact⟨by rw[hj];rfl,HB.out⟩
theorem c_heldSendS (v:Value) (xs:List xV) (m:Nat) (w:World) (h0:0<m) (hm:m+wR xV.cnt xs≤4611686018427387904) (hr:T.rd w (T.sl 98 2 ((mkL xV.mkd xV.cnt xs m).map xV.t)) [v]):
  Calls Tryz.prog 254 #[v,.int .i64 (m:Int)] w fun e w'=>e= .returned (.int .i64 ((m+wR xV.cnt xs:Nat):Int))∧Below w.heap.size w w':=by
 obtain⟨A,cap,rfl,hl,hc,hx⟩:=T.yV hr;rw[List.length_map,uH] at hl ⊢;have HX:=xN hx;clear hx hr
 go_enter Tryz.func254,Tryz.ntmps254
 go_wp2
 go_loopw [1,5] (fun t iv wr=> ∃ k j:Nat,k≤xs.length∧iv= .int .i64 (k:Int)∧t= .int .i64 (j:Int)∧j=m+wR xV.cnt (xs.take k)∧Below w.heap.size w wr) (fun _ iv _=>xs.length - (intOf iv).toNat)
 case atStart=>exact⟨0,m,Nat.zero_le _,rfl,rfl,by simp[wR],zR⟩
 case round=>
  obtain⟨k,j,hk,rfl,rfl,hj,hb⟩:=hrel;have HB:=xN hb;clear hb;by_cases hlt:k<xs.length
  ·have hgk:=gE hlt
   have hcl:=vE (c:=xV.cnt) hgk;have hle:=zPz (c:=xV.cnt) xs (k+1);have hat:=uNz (m:=xV.mkd) (c:=xV.cnt) (k:=m) hgk;rw[←hj] at hat;generalize xs[k]=x at *;have HGK:=xN hgk;have HJ:=xN hj;clear hgk;have hxb:j+xV.cnt x≤4611686018427387904:=by omega
   have hj0:0<j:=by omega
   clear hcl hle hj;obtain⟨b,off,cs,rfl,hbw,hcs,hcell⟩:=HX.out k (xV.mkd x j).t (by rw[List.getElem?_map,hat];rfl);obtain rfl:=xV.yV (show T.rds _ _ _ by simpa only[xV.t,T.rd] using hcs);have d0:=(HB.out.cell hbw).trans (hcell 0 (.int .i64 (xV.mkd x j).yG) rfl);have d1:=(HB.out.cell hbw).trans (hcell 1 (.int .i64 (xV.mkd x j).yB) rfl);rw[show off+(k * 2+0)=off+k * 2 by omega] at d0;rw[show off+(k * 2+1)=off+k * 2+1 by omega] at d1;clear hcs hcell;clear hat;replace d0:wr.cell? ⟨b,off+k * 2,none⟩=some (.int .i64 (j:Int)):=d0;replace d1:wr.cell? ⟨b,off+k * 2+1,none⟩=some (.int .i64 ((j:Int)+1)):=d1;have hbr:b<wr.heap.size:=zW hbw HB.out.size;go_wp2
   go_roundw
   case rel=>exact⟨k+1,j+xV.cnt x,by omega,by go_num,by unfold xV.cnt;go_num,by rw[vE HGK.out,HJ.out];omega,HB.out⟩
   case measure=>simp[intOf];omega
  ·obtain rfl:k=xs.length:=by omega
   go_wp2;go_ret
   rw[List.take_length] at hj;exact⟨by rw[hj];rfl,HB.out⟩
theorem c_heldStripS (v:Value) (xs:List xP) (m:Nat) (w:World) (h0:0<m) (hm:m+wR xP.cnt xs≤4611686018427387904) (hr:T.rd w (T.sl 101 3 ((mkL xP.mkd xP.cnt xs m).map xP.t)) [v]):
  Calls Tryz.prog 212 #[v,.int .i64 (m:Int)] w fun e w'=>e= .returned (.int .i64 ((m+wR xP.cnt xs:Nat):Int))∧Below w.heap.size w w':=by
 obtain⟨A,cap,rfl,hl,hc,hx⟩:=T.yV hr;rw[List.length_map,uH] at hl ⊢;have HX:=xN hx;clear hx hr
 go_enter Tryz.func212,Tryz.ntmps212
 go_wp2
 go_loopw [1,5] (fun t iv wr=> ∃ k j:Nat,k≤xs.length∧iv= .int .i64 (k:Int)∧t= .int .i64 (j:Int)∧j=m+wR xP.cnt (xs.take k)∧Below w.heap.size w wr) (fun _ iv _=>xs.length - (intOf iv).toNat)
 case atStart=>exact⟨0,m,Nat.zero_le _,rfl,rfl,by simp[wR],zR⟩
 case round=>
  obtain⟨k,j,hk,rfl,rfl,hj,hb⟩:=hrel;have HB:=xN hb;clear hb;by_cases hlt:k<xs.length
  ·have hgk:=gE hlt
   have hcl:=vE (c:=xP.cnt) hgk;have hle:=zPz (c:=xP.cnt) xs (k+1);have hat:=uNz (m:=xP.mkd) (c:=xP.cnt) (k:=m) hgk;rw[←hj] at hat;generalize xs[k]=x at *;have HGK:=xN hgk;have HJ:=xN hj;clear hgk;have hxb:j+xP.cnt x≤4611686018427387904:=by omega
   have hj0:0<j:=by omega
   clear hcl hle hj;obtain⟨b,off,cs,rfl,hbw,hcs,hcell⟩:=HX.out k (xP.mkd x j).t (by rw[List.getElem?_map,hat];rfl);obtain⟨v2,rfl,hR2⟩:=xP.yV (show T.rds _ _ _ by simpa only[xP.t,T.rd] using hcs);have d0:=(HB.out.cell hbw).trans (hcell 0 (.string (xP.mkd x j).yE) rfl);have d1:=(HB.out.cell hbw).trans (hcell 1 (.int .i64 (xP.mkd x j).zU) rfl);have d2:=(HB.out.cell hbw).trans (hcell 2 (v2) rfl);rw[show off+(k * 3+0)=off+k * 3 by omega] at d0;rw[show off+(k * 3+1)=off+k * 3+1 by omega] at d1;rw[show off+(k * 3+2)=off+k * 3+2 by omega] at d2;have R2:=xN (T.yM hR2 HB.out);clear hR2;clear hcs hcell;clear hat;replace d0:wr.cell? ⟨b,off+k * 3,none⟩=some (.string (mrkB (j))):=d0;replace d1:wr.cell? ⟨b,off+k * 3+1,none⟩=some (.int .i64 ((j:Int)+1)):=d1;replace d2:wr.cell? ⟨b,off+k * 3+2,none⟩=some (v2):=d2;have hbr:b<wr.heap.size:=zW hbw HB.out.size;obtain⟨va2,vl2,vc2,rfl⟩:=T.xD R2.out;go_wp2
   go_region_held3 (fun w'=>w'.cell? ⟨b,off+k * 3,none⟩=some (.string (mrkB (j)))∧w'.cell? ⟨b,off+k * 3+1,none⟩=some (.int .i64 ((j:Int)+1))∧w'.cell? ⟨b,off+k * 3+2,none⟩=some ((.slice va2 vl2 vc2))) (first|go_keep|(refine⟨(hb3.cell ?_).trans ?_,(hb3.cell ?_).trans ?_,(hb3.cell ?_).trans ?_⟩<;>first|assumption|(simp[*];done)|(simp;omega))) (first|(go_at_call 208;refine(c_markText (j) _ zM (by unfold xP.cnt at hxb;omega)).mono ?_;rintro e w3 ⟨rfl,hb3⟩))
   have hb4:Below wr.heap.size wr w3:=by first|exact hb3|exact undrew hb3|exact wP hb3
   have e1_1:=(hb4.cell (p:=⟨b,off+k * 3+1,none⟩) hbr).trans d1;have e1_2:=(hb4.cell (p:=⟨b,off+k * 3+2,none⟩) hbr).trans d2;have HC1:=xN (hb4);have HB1:=xN (yQ HB.out HB.out.size hb4);have hsz1:=hb4.size;clear hb4 hb3;have hse0:=str_selfT (mrkB (j));go_wp2_with fail
   refine(c_heldSendS _ x.zY (j+2) _ zM (by unfold xP.cnt at hxb;omega) (T.yM R2.out (show Below wr.heap.size wr w3 from HC1.out))).mono ?_;rintro e w4 ⟨rfl,hb3⟩;have HC2:=xN (yQ HC1.out HC1.out.size hb3);have HB2:=xN (yQ HB1.out HB1.out.size hb3);have hsz2:=hb3.size;clear hb3;go_wp2
   go_roundw
   case rel=>exact⟨k+1,j+xP.cnt x,by omega,by go_num,by unfold xP.cnt;go_num,by rw[vE HGK.out,HJ.out];omega,HB2.out⟩
   case measure=>simp[intOf];omega
  ·obtain rfl:k=xs.length:=by omega
   go_wp2;go_ret
   rw[List.take_length] at hj;exact⟨by rw[hj];rfl,HB.out⟩
theorem c_markMixer (x:wG) (v0:Value) (F0:List Nat) (m:Nat) (w:World) (h0:0<m) (hm:m+x.cntv≤4611686018427387904) (o0:T.ow w (T.sl 101 3 (x.zD.map xP.t)) F0 [v0]) (hn:(F0++ []).Nodup):
  Calls Tryz.prog 81 #[.agg #[v0],.int .i64 (m:Int)] w fun e w'=>e= .returned (.int .i64 ((m+x.cntv:Nat):Int))∧T.ow w' (T.sl 101 3 ((x.mkv m).zD.map xP.t)) F0 [v0]∧Trn (F0++ []) w w':=by
 have hnd0:=vM hn;have hg0:w.heap.size ∉ F0:=fun h=>by have:=T.ow_lt _ _ _ o0 _ h;omega
 have O0_0:=xN (T.ow_all o0 (show Below w.heap.size w (w.alloc (.cells #[v0] 30)) from zR.alloc zJ _));clear o0
 go_enter Tryz.func81,Tryz.ntmps81
 have HTX0:=xN (show Trn (F0++ []) w (w.alloc (.cells #[v0] 30)) from Trn.alloc _);have HK0:=xN (Bk.born w 30 #[v0]);go_wp2_with fail
 refine(c_markStripS _ x.zD F0 (m) _ zM (by unfold wG.cntv at hm;omega) O0_0.out hnd0).mono ?_;rintro e w1 ⟨rfl,hn0,hT⟩;have hT2:Trn (F0++ []) _ _:=hT.mono (fun b hb=>by simp[hb]);have HTX1:=xN (HTX0.out.trans hT2);have HK1:=xN (HK0.out.trn hT hg0);have O0_1:=xN hn0;clear hT hT2 hn0;have k1:=HK1.out.cell;go_wp2;go_ret
 exact⟨by unfold wG.cntv;first|rfl|go_num|exact wL zM,O0_1.out,HTX1.out⟩
theorem c_heldMixer (x:wG) (v0:Value) (m:Nat) (w:World) (h0:0<m) (hm:m+x.cntv≤4611686018427387904) (r0:T.rd w (T.sl 101 3 ((x.mkv m).zD.map xP.t)) [v0]):
  Calls Tryz.prog 149 #[.agg #[v0],.int .i64 (m:Int)] w fun e w'=>e= .returned (.int .i64 ((m+x.cntv:Nat):Int))∧Below w.heap.size w w':=by
 have R0:=xN r0;clear r0
 go_enter Tryz.func149,Tryz.ntmps149
 have HB0:=xN (show Below w.heap.size w (w.alloc (.cells #[v0] 30)) from zR.alloc zJ _);have HK0:=xN (Bk.born w 30 #[v0]);go_wp2_with fail
 refine(c_heldStripS _ x.zD (m) _ zM (by unfold wG.cntv at hm;omega) (T.yM R0.out HB0.out)).mono ?_;rintro e w1 ⟨rfl,hb⟩;have HK1:=xN (HK0.out.below hb HK0.out.lt);have HB1:=xN (yQ HB0.out HB0.out.size hb);clear hb;have k1:=HK1.out.cell;go_wp2;go_ret
 exact⟨by unfold wG.cntv;first|rfl|go_num|exact wL zM,HB1.out⟩
theorem zXy (x:xS) (v1:Value) (v2:Value) (v3:Value) (v4:Value) (v5:Value) (F1:List Nat) (F2:List Nat) (F3:List Nat) (F4:List Nat) (F5:List Nat) (m:Nat) (w:World) (h0:0<m) (hm:m+x.cntv≤4611686018427387904) (o1:T.ow w (T.sl 26 1 (x.zI.map (T.ints 2))) F1 [v1]) (o2:T.ow w (T.sl 96 1 (x.zL.map xQ.t)) F2 [v2]) (o3:T.ow w (T.ints 2 x.zX) F3 [v3]) (o4:T.ow w (T.sl 108 4 (x.zO.map xO.t)) F4 [v4]) (o5:T.ow w (T.sl 101 3 (x.zH.zD.map xP.t)) F5 [v5]) (hn:(F1++(F2++(F3++(F4++(F5++ []))))).Nodup):
  Calls Tryz.prog 29 #[.agg #[.int .i64 x.zF,v1,v2,v3,v4,v5],.int .i64 (m:Int)] w fun e w'=>e= .returned (.int .i64 ((m+x.cntv:Nat):Int))∧T.ow w' (T.sl 26 1 ((x.mkv m).zI.map (T.ints 2))) F1 [v1]∧T.ow w' (T.sl 96 1 ((x.mkv m).zL.map xQ.t)) F2 [v2]∧T.ow w' (T.ints 2 (x.mkv m).zX) F3 [v3]∧T.ow w' (T.sl 108 4 ((x.mkv m).zO.map xO.t)) F4 [v4]∧T.ow w' (T.sl 101 3 ((x.mkv m).zH.zD.map xP.t)) F5 [v5]∧Trn (F1++(F2++(F3++(F4++(F5++ []))))) w w':=by
 have hnd1:=vM hn;have hdj1_2: ∀ b ∈ F1,b ∉ F2:=fun b h1 h2=>wV hn b h1 (by simp[h2])
 have hdj2_1: ∀ b ∈ F2,b ∉ F1:=fun b h1 h2=>hdj1_2 b h2 h1
 have hdj1_3: ∀ b ∈ F1,b ∉ F3:=fun b h1 h2=>wV hn b h1 (by simp[h2])
 have hdj3_1: ∀ b ∈ F3,b ∉ F1:=fun b h1 h2=>hdj1_3 b h2 h1
 have hdj1_4: ∀ b ∈ F1,b ∉ F4:=fun b h1 h2=>wV hn b h1 (by simp[h2])
 have hdj4_1: ∀ b ∈ F4,b ∉ F1:=fun b h1 h2=>hdj1_4 b h2 h1
 have hdj1_5: ∀ b ∈ F1,b ∉ F5:=fun b h1 h2=>wV hn b h1 (by simp[h2])
 have hdj5_1: ∀ b ∈ F5,b ∉ F1:=fun b h1 h2=>hdj1_5 b h2 h1
 have hnd2:=vM (yY hn);have hdj2_3: ∀ b ∈ F2,b ∉ F3:=fun b h1 h2=>wV (yY hn) b h1 (by simp[h2])
 have hdj3_2: ∀ b ∈ F3,b ∉ F2:=fun b h1 h2=>hdj2_3 b h2 h1
 have hdj2_4: ∀ b ∈ F2,b ∉ F4:=fun b h1 h2=>wV (yY hn) b h1 (by simp[h2])
 have hdj4_2: ∀ b ∈ F4,b ∉ F2:=fun b h1 h2=>hdj2_4 b h2 h1
 have hdj2_5: ∀ b ∈ F2,b ∉ F5:=fun b h1 h2=>wV (yY hn) b h1 (by simp[h2])
 have hdj5_2: ∀ b ∈ F5,b ∉ F2:=fun b h1 h2=>hdj2_5 b h2 h1
 have hnd3:=vM (yY (yY hn));have hdj3_4: ∀ b ∈ F3,b ∉ F4:=fun b h1 h2=>wV (yY (yY hn)) b h1 (by simp[h2])
 have hdj4_3: ∀ b ∈ F4,b ∉ F3:=fun b h1 h2=>hdj3_4 b h2 h1
 have hdj3_5: ∀ b ∈ F3,b ∉ F5:=fun b h1 h2=>wV (yY (yY hn)) b h1 (by simp[h2])
 have hdj5_3: ∀ b ∈ F5,b ∉ F3:=fun b h1 h2=>hdj3_5 b h2 h1
 have hnd4:=vM (yY (yY (yY hn)));have hdj4_5: ∀ b ∈ F4,b ∉ F5:=fun b h1 h2=>wV (yY (yY (yY hn))) b h1 (by simp[h2])
 have hdj5_4: ∀ b ∈ F5,b ∉ F4:=fun b h1 h2=>hdj4_5 b h2 h1
 have hnd5:=vM (yY (yY (yY (yY hn))));have hg1:w.heap.size ∉ F1:=fun h=>by have:=T.ow_lt _ _ _ o1 _ h;omega
 have O1_0:=xN (T.ow_all o1 (show Below w.heap.size w (w.alloc (.cells #[.int .i64 x.zF,v1,v2,v3,v4,v5] 32)) from zR.alloc zJ _));have hg2:w.heap.size ∉ F2:=fun h=>by have:=T.ow_lt _ _ _ o2 _ h;omega
 have O2_0:=xN (T.ow_all o2 (show Below w.heap.size w (w.alloc (.cells #[.int .i64 x.zF,v1,v2,v3,v4,v5] 32)) from zR.alloc zJ _));have hg3:w.heap.size ∉ F3:=fun h=>by have:=T.ow_lt _ _ _ o3 _ h;omega
 have O3_0:=xN (T.ow_all o3 (show Below w.heap.size w (w.alloc (.cells #[.int .i64 x.zF,v1,v2,v3,v4,v5] 32)) from zR.alloc zJ _));have hg4:w.heap.size ∉ F4:=fun h=>by have:=T.ow_lt _ _ _ o4 _ h;omega
 have O4_0:=xN (T.ow_all o4 (show Below w.heap.size w (w.alloc (.cells #[.int .i64 x.zF,v1,v2,v3,v4,v5] 32)) from zR.alloc zJ _));have hg5:w.heap.size ∉ F5:=fun h=>by have:=T.ow_lt _ _ _ o5 _ h;omega
 have O5_0:=xN (T.ow_all o5 (show Below w.heap.size w (w.alloc (.cells #[.int .i64 x.zF,v1,v2,v3,v4,v5] 32)) from zR.alloc zJ _));clear o1 o2 o3 o4 o5
 go_enter Tryz.func29,Tryz.ntmps29
 have HTX0:=xN (show Trn (F1++(F2++(F3++(F4++(F5++ []))))) w (w.alloc (.cells #[.int .i64 x.zF,v1,v2,v3,v4,v5] 32)) from Trn.alloc _);have HK0:=xN (Bk.born w 32 #[.int .i64 x.zF,v1,v2,v3,v4,v5]);go_wp2_with fail
 refine(zVy _ x.zI F1 (m) _ zM (by unfold xS.cntv at hm;omega) O1_0.out hnd1).mono ?_;rintro e w1 ⟨rfl,hn1,hT⟩;have hT2:Trn (F1++(F2++(F3++(F4++(F5++ []))))) _ _:=hT.mono (fun b hb=>by simp[hb]);have HTX1:=xN (HTX0.out.trans hT2);have HK1:=xN (HK0.out.trn hT hg1);have O1_1:=xN hn1;have O2_1:=xN (T.ow_trn O2_0.out hT hdj2_1);have O3_1:=xN (T.ow_trn O3_0.out hT hdj3_1);have O4_1:=xN (T.ow_trn O4_0.out hT hdj4_1);have O5_1:=xN (T.ow_trn O5_0.out hT hdj5_1);clear hT hT2 hn1;have k1:=HK1.out.cell;go_wp2_with fail
 refine(c_markTrackS _ x.zL F2 (m+wR List.length x.zI) _ zM (by unfold xS.cntv at hm;omega) O2_1.out hnd2).mono ?_;rintro e w2 ⟨rfl,hn2,hT⟩;have hT2:Trn (F1++(F2++(F3++(F4++(F5++ []))))) _ _:=hT.mono (fun b hb=>by simp[hb]);have HTX2:=xN (HTX1.out.trans hT2);have HK2:=xN (HK1.out.trn hT hg2);have O1_2:=xN (T.ow_trn O1_1.out hT hdj1_2);have O2_2:=xN hn2;have O3_2:=xN (T.ow_trn O3_1.out hT hdj3_2);have O4_2:=xN (T.ow_trn O4_1.out hT hdj4_2);have O5_2:=xN (T.ow_trn O5_1.out hT hdj5_2);clear hT hT2 hn2;have k2:=HK2.out.cell;go_wp2_with fail
 refine(zGy _ x.zX F3 (m+wR List.length x.zI+wR xQ.cnt x.zL) _ zM (by unfold xS.cntv at hm;omega) O3_2.out hnd3).mono ?_;rintro e w3 ⟨rfl,hn3,hT⟩;have hT2:Trn (F1++(F2++(F3++(F4++(F5++ []))))) _ _:=hT.mono (fun b hb=>by simp[hb]);have HTX3:=xN (HTX2.out.trans hT2);have HK3:=xN (HK2.out.trn hT hg3);have O1_3:=xN (T.ow_trn O1_2.out hT hdj1_3);have O2_3:=xN (T.ow_trn O2_2.out hT hdj2_3);have O3_3:=xN hn3;have O4_3:=xN (T.ow_trn O4_2.out hT hdj4_3);have O5_3:=xN (T.ow_trn O5_2.out hT hdj5_3);clear hT hT2 hn3;have k3:=HK3.out.cell;go_wp2_with fail
 refine(c_markPatchS _ x.zO F4 (m+wR List.length x.zI+wR xQ.cnt x.zL+x.zX.length) _ zM (by unfold xS.cntv at hm;omega) O4_3.out hnd4).mono ?_;rintro e w4 ⟨rfl,hn4,hT⟩;have hT2:Trn (F1++(F2++(F3++(F4++(F5++ []))))) _ _:=hT.mono (fun b hb=>by simp[hb]);have HTX4:=xN (HTX3.out.trans hT2);have HK4:=xN (HK3.out.trn hT hg4);have O1_4:=xN (T.ow_trn O1_3.out hT hdj1_4);have O2_4:=xN (T.ow_trn O2_3.out hT hdj2_4);have O3_4:=xN (T.ow_trn O3_3.out hT hdj3_4);have O4_4:=xN hn4;have O5_4:=xN (T.ow_trn O5_3.out hT hdj5_4);clear hT hT2 hn4;have k4:=HK4.out.cell;go_wp2_with fail
 refine(c_markMixer x.zH v5 F5 (m+wR List.length x.zI+wR xQ.cnt x.zL+x.zX.length+wR xO.cnt x.zO) _ zM (by unfold xS.cntv at hm;omega) O5_4.out (List.Nodup.sublist (List.Sublist.trans (List.Sublist.trans (List.Sublist.trans (List.Sublist.trans (List.Sublist.append (List.Sublist.refl _) (List.nil_sublist _)) (List.sublist_append_right _ _)) (List.sublist_append_right _ _)) (List.sublist_append_right _ _)) (List.sublist_append_right _ _)) hn)).mono ?_;rintro e w5 ⟨rfl,hn5,hT⟩;have hT2:Trn (F1++(F2++(F3++(F4++(F5++ []))))) _ _:=hT.mono (fun b hb=>by simp only[List.mem_append,List.not_mem_nil,or_false] at hb ⊢;simp[hb]);have HTX5:=xN (HTX4.out.trans hT2);have HK5:=xN (HK4.out.trn hT (fun h=>by simp only[List.mem_append,List.not_mem_nil,or_false] at h;exact hg5 h));have O1_5:=xN (T.ow_trn O1_4.out hT (fun b hb h=>by simp only[List.mem_append,List.not_mem_nil,or_false] at h;exact hdj1_5 b hb h));have O2_5:=xN (T.ow_trn O2_4.out hT (fun b hb h=>by simp only[List.mem_append,List.not_mem_nil,or_false] at h;exact hdj2_5 b hb h));have O3_5:=xN (T.ow_trn O3_4.out hT (fun b hb h=>by simp only[List.mem_append,List.not_mem_nil,or_false] at h;exact hdj3_5 b hb h));have O4_5:=xN (T.ow_trn O4_4.out hT (fun b hb h=>by simp only[List.mem_append,List.not_mem_nil,or_false] at h;exact hdj4_5 b hb h));have O5_5:=xN hn5;clear hT hT2 hn5;have k5:=HK5.out.cell;go_wp2;go_ret
 exact⟨by unfold xS.cntv;first|rfl|go_num|exact wL zM,O1_5.out,O2_5.out,O3_5.out,O4_5.out,O5_5.out,HTX5.out⟩
theorem c_heldSession (x:xS) (v1:Value) (v2:Value) (v3:Value) (v4:Value) (v5:Value) (y0:Int) (m:Nat) (w:World) (h0:0<m) (hm:m+x.cntv≤4611686018427387904) (r1:T.rd w (T.sl 26 1 ((x.mkv m).zI.map (T.ints 2))) [v1]) (r2:T.rd w (T.sl 96 1 ((x.mkv m).zL.map xQ.t)) [v2]) (r3:T.rd w (T.ints 2 (x.mkv m).zX) [v3]) (r4:T.rd w (T.sl 108 4 ((x.mkv m).zO.map xO.t)) [v4]) (r5:T.rd w (T.sl 101 3 ((x.mkv m).zH.zD.map xP.t)) [v5]):
  Calls Tryz.prog 82 #[.agg #[.int .i64 y0,v1,v2,v3,v4,v5],.int .i64 (m:Int)] w fun e w'=>e= .returned (.int .i64 ((m+x.cntv:Nat):Int))∧Below w.heap.size w w':=by
 have R1:=xN r1;have R2:=xN r2;have R3:=xN r3;have R4:=xN r4;have R5:=xN r5;clear r1 r2 r3 r4 r5
 go_enter Tryz.func82,Tryz.ntmps82
 have HB0:=xN (show Below w.heap.size w (w.alloc (.cells #[.int .i64 y0,v1,v2,v3,v4,v5] 32)) from zR.alloc zJ _);have HK0:=xN (Bk.born w 32 #[.int .i64 y0,v1,v2,v3,v4,v5]);go_wp2_with fail
 refine(zWy _ x.zI (m) _ zM (by unfold xS.cntv at hm;omega) (T.yM R1.out HB0.out)).mono ?_;rintro e w1 ⟨rfl,hb⟩;have HK1:=xN (HK0.out.below hb HK0.out.lt);have HB1:=xN (yQ HB0.out HB0.out.size hb);clear hb;have k1:=HK1.out.cell;go_wp2_with fail
 refine(c_heldTrackS _ x.zL (m+wR List.length x.zI) _ zM (by unfold xS.cntv at hm;omega) (T.yM R2.out HB1.out)).mono ?_;rintro e w2 ⟨rfl,hb⟩;have HK2:=xN (HK1.out.below hb HK1.out.lt);have HB2:=xN (yQ HB1.out HB1.out.size hb);clear hb;have k2:=HK2.out.cell;go_wp2_with fail
 refine(vJz _ x.zX.length (m+wR List.length x.zI+wR xQ.cnt x.zL) _ (T.yM R3.out HB2.out) (by unfold xS.cntv at hm;omega)).mono ?_;rintro e w3 ⟨rfl,hb⟩;have HK3:=xN (HK2.out.below hb HK2.out.lt);have HB3:=xN (yQ HB2.out HB2.out.size hb);clear hb;have k3:=HK3.out.cell;go_wp2_with fail
 refine(c_heldPatchS _ x.zO (m+wR List.length x.zI+wR xQ.cnt x.zL+x.zX.length) _ zM (by unfold xS.cntv at hm;omega) (T.yM R4.out HB3.out)).mono ?_;rintro e w4 ⟨rfl,hb⟩;have HK4:=xN (HK3.out.below hb HK3.out.lt);have HB4:=xN (yQ HB3.out HB3.out.size hb);clear hb;have k4:=HK4.out.cell;go_wp2_with fail
 refine(c_heldMixer x.zH v5 (m+wR List.length x.zI+wR xQ.cnt x.zL+x.zX.length+wR xO.cnt x.zO) _ zM (by unfold xS.cntv at hm;omega) (T.yM R5.out HB4.out)).mono ?_;rintro e w5 ⟨rfl,hb⟩;have HK5:=xN (HK4.out.below hb HK4.out.lt);have HB5:=xN (yQ HB4.out HB4.out.size hb);clear hb;have k5:=HK5.out.cell;go_wp2;go_ret
 exact⟨by unfold xS.cntv;first|rfl|go_num|exact wL zM,HB5.out⟩
theorem c_markCache (x:xX) (v1:Value) (v2:Value) (v3:Value) (v4:Value) (v5:Value) (v6:Value) (v7:Value) (F1:List Nat) (F2:List Nat) (F3:List Nat) (F4:List Nat) (F5:List Nat) (F6:List Nat) (F7:List Nat) (m:Nat) (w:World) (h0:0<m) (hm:m+x.cntv≤4611686018427387904) (o1:T.ow w (T.sl 26 1 (x.zB.zI.map (T.ints 2))) F1 [v1]) (o2:T.ow w (T.sl 96 1 (x.zB.zL.map xQ.t)) F2 [v2]) (o3:T.ow w (T.ints 2 x.zB.zX) F3 [v3]) (o4:T.ow w (T.sl 108 4 (x.zB.zO.map xO.t)) F4 [v4]) (o5:T.ow w (T.sl 101 3 (x.zB.zH.zD.map xP.t)) F5 [v5]) (o6:T.ow w (T.ints 2 x.yF) F6 [v6]) (o7:T.ow w (T.ints 2 x.yC) F7 [v7]) (hn:(F1++(F2++(F3++(F4++(F5++(F6++(F7++ []))))))).Nodup):
  Calls Tryz.prog 30 #[.agg #[.int .i64 x.zB.zF,v1,v2,v3,v4,v5,v6,v7],.int .i64 (m:Int)] w fun e w'=>e= .returned (.int .i64 ((m+x.cntv:Nat):Int))∧T.ow w' (T.sl 26 1 ((x.mkv m).zB.zI.map (T.ints 2))) F1 [v1]∧T.ow w' (T.sl 96 1 ((x.mkv m).zB.zL.map xQ.t)) F2 [v2]∧T.ow w' (T.ints 2 (x.mkv m).zB.zX) F3 [v3]∧T.ow w' (T.sl 108 4 ((x.mkv m).zB.zO.map xO.t)) F4 [v4]∧T.ow w' (T.sl 101 3 ((x.mkv m).zB.zH.zD.map xP.t)) F5 [v5]∧T.ow w' (T.ints 2 (x.mkv m).yF) F6 [v6]∧T.ow w' (T.ints 2 (x.mkv m).yC) F7 [v7]∧Trn (F1++(F2++(F3++(F4++(F5++(F6++(F7++ []))))))) w w':=by
 have hnd1:=vM hn;have hdj1_2: ∀ b ∈ F1,b ∉ F2:=fun b h1 h2=>wV hn b h1 (by simp[h2])
 have hdj2_1: ∀ b ∈ F2,b ∉ F1:=fun b h1 h2=>hdj1_2 b h2 h1
 have hdj1_3: ∀ b ∈ F1,b ∉ F3:=fun b h1 h2=>wV hn b h1 (by simp[h2])
 have hdj3_1: ∀ b ∈ F3,b ∉ F1:=fun b h1 h2=>hdj1_3 b h2 h1
 have hdj1_4: ∀ b ∈ F1,b ∉ F4:=fun b h1 h2=>wV hn b h1 (by simp[h2])
 have hdj4_1: ∀ b ∈ F4,b ∉ F1:=fun b h1 h2=>hdj1_4 b h2 h1
 have hdj1_5: ∀ b ∈ F1,b ∉ F5:=fun b h1 h2=>wV hn b h1 (by simp[h2])
 have hdj5_1: ∀ b ∈ F5,b ∉ F1:=fun b h1 h2=>hdj1_5 b h2 h1
 have hdj1_6: ∀ b ∈ F1,b ∉ F6:=fun b h1 h2=>wV hn b h1 (by simp[h2])
 have hdj6_1: ∀ b ∈ F6,b ∉ F1:=fun b h1 h2=>hdj1_6 b h2 h1
 have hdj1_7: ∀ b ∈ F1,b ∉ F7:=fun b h1 h2=>wV hn b h1 (by simp[h2])
 have hdj7_1: ∀ b ∈ F7,b ∉ F1:=fun b h1 h2=>hdj1_7 b h2 h1
 have hnd2:=vM (yY hn);have hdj2_3: ∀ b ∈ F2,b ∉ F3:=fun b h1 h2=>wV (yY hn) b h1 (by simp[h2])
 have hdj3_2: ∀ b ∈ F3,b ∉ F2:=fun b h1 h2=>hdj2_3 b h2 h1
 have hdj2_4: ∀ b ∈ F2,b ∉ F4:=fun b h1 h2=>wV (yY hn) b h1 (by simp[h2])
 have hdj4_2: ∀ b ∈ F4,b ∉ F2:=fun b h1 h2=>hdj2_4 b h2 h1
 have hdj2_5: ∀ b ∈ F2,b ∉ F5:=fun b h1 h2=>wV (yY hn) b h1 (by simp[h2])
 have hdj5_2: ∀ b ∈ F5,b ∉ F2:=fun b h1 h2=>hdj2_5 b h2 h1
 have hdj2_6: ∀ b ∈ F2,b ∉ F6:=fun b h1 h2=>wV (yY hn) b h1 (by simp[h2])
 have hdj6_2: ∀ b ∈ F6,b ∉ F2:=fun b h1 h2=>hdj2_6 b h2 h1
 have hdj2_7: ∀ b ∈ F2,b ∉ F7:=fun b h1 h2=>wV (yY hn) b h1 (by simp[h2])
 have hdj7_2: ∀ b ∈ F7,b ∉ F2:=fun b h1 h2=>hdj2_7 b h2 h1
 have hnd3:=vM (yY (yY hn));have hdj3_4: ∀ b ∈ F3,b ∉ F4:=fun b h1 h2=>wV (yY (yY hn)) b h1 (by simp[h2])
 have hdj4_3: ∀ b ∈ F4,b ∉ F3:=fun b h1 h2=>hdj3_4 b h2 h1
 have hdj3_5: ∀ b ∈ F3,b ∉ F5:=fun b h1 h2=>wV (yY (yY hn)) b h1 (by simp[h2])
 have hdj5_3: ∀ b ∈ F5,b ∉ F3:=fun b h1 h2=>hdj3_5 b h2 h1
 have hdj3_6: ∀ b ∈ F3,b ∉ F6:=fun b h1 h2=>wV (yY (yY hn)) b h1 (by simp[h2])
 have hdj6_3: ∀ b ∈ F6,b ∉ F3:=fun b h1 h2=>hdj3_6 b h2 h1
 have hdj3_7: ∀ b ∈ F3,b ∉ F7:=fun b h1 h2=>wV (yY (yY hn)) b h1 (by simp[h2])
 have hdj7_3: ∀ b ∈ F7,b ∉ F3:=fun b h1 h2=>hdj3_7 b h2 h1
 have hnd4:=vM (yY (yY (yY hn)));have hdj4_5: ∀ b ∈ F4,b ∉ F5:=fun b h1 h2=>wV (yY (yY (yY hn))) b h1 (by simp[h2])
 have hdj5_4: ∀ b ∈ F5,b ∉ F4:=fun b h1 h2=>hdj4_5 b h2 h1
 have hdj4_6: ∀ b ∈ F4,b ∉ F6:=fun b h1 h2=>wV (yY (yY (yY hn))) b h1 (by simp[h2])
 have hdj6_4: ∀ b ∈ F6,b ∉ F4:=fun b h1 h2=>hdj4_6 b h2 h1
 have hdj4_7: ∀ b ∈ F4,b ∉ F7:=fun b h1 h2=>wV (yY (yY (yY hn))) b h1 (by simp[h2])
 have hdj7_4: ∀ b ∈ F7,b ∉ F4:=fun b h1 h2=>hdj4_7 b h2 h1
 have hnd5:=vM (yY (yY (yY (yY hn))));have hdj5_6: ∀ b ∈ F5,b ∉ F6:=fun b h1 h2=>wV (yY (yY (yY (yY hn)))) b h1 (by simp[h2])
 have hdj6_5: ∀ b ∈ F6,b ∉ F5:=fun b h1 h2=>hdj5_6 b h2 h1
 have hdj5_7: ∀ b ∈ F5,b ∉ F7:=fun b h1 h2=>wV (yY (yY (yY (yY hn)))) b h1 (by simp[h2])
 have hdj7_5: ∀ b ∈ F7,b ∉ F5:=fun b h1 h2=>hdj5_7 b h2 h1
 have hnd6:=vM (yY (yY (yY (yY (yY hn)))));have hdj6_7: ∀ b ∈ F6,b ∉ F7:=fun b h1 h2=>wV (yY (yY (yY (yY (yY hn))))) b h1 (by simp[h2])
 have hdj7_6: ∀ b ∈ F7,b ∉ F6:=fun b h1 h2=>hdj6_7 b h2 h1
 have hnd7:=vM (yY (yY (yY (yY (yY (yY hn))))));have hg1:w.heap.size ∉ F1:=fun h=>by have:=T.ow_lt _ _ _ o1 _ h;omega
 have O1_0:=xN (T.ow_all o1 (show Below w.heap.size w (w.alloc (.cells #[.int .i64 x.zB.zF,v1,v2,v3,v4,v5,v6,v7] 65)) from zR.alloc zJ _));have hg2:w.heap.size ∉ F2:=fun h=>by have:=T.ow_lt _ _ _ o2 _ h;omega
 have O2_0:=xN (T.ow_all o2 (show Below w.heap.size w (w.alloc (.cells #[.int .i64 x.zB.zF,v1,v2,v3,v4,v5,v6,v7] 65)) from zR.alloc zJ _));have hg3:w.heap.size ∉ F3:=fun h=>by have:=T.ow_lt _ _ _ o3 _ h;omega
 have O3_0:=xN (T.ow_all o3 (show Below w.heap.size w (w.alloc (.cells #[.int .i64 x.zB.zF,v1,v2,v3,v4,v5,v6,v7] 65)) from zR.alloc zJ _));have hg4:w.heap.size ∉ F4:=fun h=>by have:=T.ow_lt _ _ _ o4 _ h;omega
 have O4_0:=xN (T.ow_all o4 (show Below w.heap.size w (w.alloc (.cells #[.int .i64 x.zB.zF,v1,v2,v3,v4,v5,v6,v7] 65)) from zR.alloc zJ _));have hg5:w.heap.size ∉ F5:=fun h=>by have:=T.ow_lt _ _ _ o5 _ h;omega
 have O5_0:=xN (T.ow_all o5 (show Below w.heap.size w (w.alloc (.cells #[.int .i64 x.zB.zF,v1,v2,v3,v4,v5,v6,v7] 65)) from zR.alloc zJ _));have hg6:w.heap.size ∉ F6:=fun h=>by have:=T.ow_lt _ _ _ o6 _ h;omega
 have O6_0:=xN (T.ow_all o6 (show Below w.heap.size w (w.alloc (.cells #[.int .i64 x.zB.zF,v1,v2,v3,v4,v5,v6,v7] 65)) from zR.alloc zJ _));have hg7:w.heap.size ∉ F7:=fun h=>by have:=T.ow_lt _ _ _ o7 _ h;omega
 have O7_0:=xN (T.ow_all o7 (show Below w.heap.size w (w.alloc (.cells #[.int .i64 x.zB.zF,v1,v2,v3,v4,v5,v6,v7] 65)) from zR.alloc zJ _));clear o1 o2 o3 o4 o5 o6 o7
 go_enter Tryz.func30,Tryz.ntmps30
 have HTX0:=xN (show Trn (F1++(F2++(F3++(F4++(F5++(F6++(F7++ []))))))) w (w.alloc (.cells #[.int .i64 x.zB.zF,v1,v2,v3,v4,v5,v6,v7] 65)) from Trn.alloc _);have HK0:=xN (Bk.born w 65 #[.int .i64 x.zB.zF,v1,v2,v3,v4,v5,v6,v7]);go_wp2_with fail
 refine(zXy x.zB v1 v2 v3 v4 v5 F1 F2 F3 F4 F5 (m) _ zM (by unfold xX.cntv at hm;omega) O1_0.out O2_0.out O3_0.out O4_0.out O5_0.out (List.Nodup.sublist (List.Sublist.append (List.Sublist.refl _) (List.Sublist.append (List.Sublist.refl _) (List.Sublist.append (List.Sublist.refl _) (List.Sublist.append (List.Sublist.refl _) (List.Sublist.append (List.Sublist.refl _) (List.nil_sublist _)))))) hn)).mono ?_;rintro e w1 ⟨rfl,hn1,hn2,hn3,hn4,hn5,hT⟩;have hT2:Trn (F1++(F2++(F3++(F4++(F5++(F6++(F7++ []))))))) _ _:=hT.mono (fun b hb=>by simp only[List.mem_append,List.not_mem_nil,or_false] at hb ⊢;rcases hb with h|h|h|h|h<;>simp[h]);have HTX1:=xN (HTX0.out.trans hT2);have HK1:=xN (HK0.out.trn hT (fun h=>by simp only[List.mem_append,List.not_mem_nil,or_false] at h;rcases h with h|h|h|h|h<;>contradiction));have O1_1:=xN hn1;have O2_1:=xN hn2;have O3_1:=xN hn3;have O4_1:=xN hn4;have O5_1:=xN hn5;have O6_1:=xN (T.ow_trn O6_0.out hT (fun b hb h=>by simp only[List.mem_append,List.not_mem_nil,or_false] at h;exact(fun h'=>Or.elim h' (fun h'=>hdj6_1 b hb h') (fun h'=>Or.elim h' (fun h'=>hdj6_2 b hb h') (fun h'=>Or.elim h' (fun h'=>hdj6_3 b hb h') (fun h'=>Or.elim h' (fun h'=>hdj6_4 b hb h') (fun h'=>hdj6_5 b hb h'))))) h));have O7_1:=xN (T.ow_trn O7_0.out hT (fun b hb h=>by simp only[List.mem_append,List.not_mem_nil,or_false] at h;exact(fun h'=>Or.elim h' (fun h'=>hdj7_1 b hb h') (fun h'=>Or.elim h' (fun h'=>hdj7_2 b hb h') (fun h'=>Or.elim h' (fun h'=>hdj7_3 b hb h') (fun h'=>Or.elim h' (fun h'=>hdj7_4 b hb h') (fun h'=>hdj7_5 b hb h'))))) h));clear hT hT2 hn1 hn2 hn3 hn4 hn5;have k1:=HK1.out.cell;go_wp2_with fail
 refine(zGy _ x.yF F6 (m+x.zB.cntv) _ zM (by unfold xX.cntv at hm;omega) O6_1.out hnd6).mono ?_;rintro e w2 ⟨rfl,hn6,hT⟩;have hT2:Trn (F1++(F2++(F3++(F4++(F5++(F6++(F7++ []))))))) _ _:=hT.mono (fun b hb=>by simp[hb]);have HTX2:=xN (HTX1.out.trans hT2);have HK2:=xN (HK1.out.trn hT hg6);have O1_2:=xN (T.ow_trn O1_1.out hT hdj1_6);have O2_2:=xN (T.ow_trn O2_1.out hT hdj2_6);have O3_2:=xN (T.ow_trn O3_1.out hT hdj3_6);have O4_2:=xN (T.ow_trn O4_1.out hT hdj4_6);have O5_2:=xN (T.ow_trn O5_1.out hT hdj5_6);have O6_2:=xN hn6;have O7_2:=xN (T.ow_trn O7_1.out hT hdj7_6);clear hT hT2 hn6;have k2:=HK2.out.cell;go_wp2_with fail
 refine(zGy _ x.yC F7 (m+x.zB.cntv+x.yF.length) _ zM (by unfold xX.cntv at hm;omega) O7_2.out hnd7).mono ?_;rintro e w3 ⟨rfl,hn7,hT⟩;have hT2:Trn (F1++(F2++(F3++(F4++(F5++(F6++(F7++ []))))))) _ _:=hT.mono (fun b hb=>by simp[hb]);have HTX3:=xN (HTX2.out.trans hT2);have HK3:=xN (HK2.out.trn hT hg7);have O1_3:=xN (T.ow_trn O1_2.out hT hdj1_7);have O2_3:=xN (T.ow_trn O2_2.out hT hdj2_7);have O3_3:=xN (T.ow_trn O3_2.out hT hdj3_7);have O4_3:=xN (T.ow_trn O4_2.out hT hdj4_7);have O5_3:=xN (T.ow_trn O5_2.out hT hdj5_7);have O6_3:=xN (T.ow_trn O6_2.out hT hdj6_7);have O7_3:=xN hn7;clear hT hT2 hn7;have k3:=HK3.out.cell;go_wp2;go_ret
 exact⟨by unfold xX.cntv;first|rfl|go_num|exact wL zM,O1_3.out,O2_3.out,O3_3.out,O4_3.out,O5_3.out,O6_3.out,O7_3.out,HTX3.out⟩
theorem c_heldCache (x:xX) (v1:Value) (v2:Value) (v3:Value) (v4:Value) (v5:Value) (v6:Value) (v7:Value) (y0:Int) (m:Nat) (w:World) (h0:0<m) (hm:m+x.cntv≤4611686018427387904) (r1:T.rd w (T.sl 26 1 ((x.mkv m).zB.zI.map (T.ints 2))) [v1]) (r2:T.rd w (T.sl 96 1 ((x.mkv m).zB.zL.map xQ.t)) [v2]) (r3:T.rd w (T.ints 2 (x.mkv m).zB.zX) [v3]) (r4:T.rd w (T.sl 108 4 ((x.mkv m).zB.zO.map xO.t)) [v4]) (r5:T.rd w (T.sl 101 3 ((x.mkv m).zB.zH.zD.map xP.t)) [v5]) (r6:T.rd w (T.ints 2 (x.mkv m).yF) [v6]) (r7:T.rd w (T.ints 2 (x.mkv m).yC) [v7]):
  Calls Tryz.prog 31 #[.agg #[.int .i64 y0,v1,v2,v3,v4,v5,v6,v7],.int .i64 (m:Int)] w fun e w'=>e= .returned (.int .i64 ((m+x.cntv:Nat):Int))∧Below w.heap.size w w':=by
 have R1:=xN r1;have R2:=xN r2;have R3:=xN r3;have R4:=xN r4;have R5:=xN r5;have R6:=xN r6;have R7:=xN r7;clear r1 r2 r3 r4 r5 r6 r7
 go_enter Tryz.func31,Tryz.ntmps31
 have HB0:=xN (show Below w.heap.size w (w.alloc (.cells #[.int .i64 y0,v1,v2,v3,v4,v5,v6,v7] 65)) from zR.alloc zJ _);have HK0:=xN (Bk.born w 65 #[.int .i64 y0,v1,v2,v3,v4,v5,v6,v7]);go_wp2_with fail
 refine(c_heldSession x.zB v1 v2 v3 v4 v5 y0 (m) _ zM (by unfold xX.cntv at hm;omega) (T.yM R1.out HB0.out) (T.yM R2.out HB0.out) (T.yM R3.out HB0.out) (T.yM R4.out HB0.out) (T.yM R5.out HB0.out)).mono ?_;rintro e w1 ⟨rfl,hb⟩;have HK1:=xN (HK0.out.below hb HK0.out.lt);have HB1:=xN (yQ HB0.out HB0.out.size hb);clear hb;have k1:=HK1.out.cell;go_wp2_with fail
 refine(vJz _ x.yF.length (m+x.zB.cntv) _ (T.yM R6.out HB1.out) (by unfold xX.cntv at hm;omega)).mono ?_;rintro e w2 ⟨rfl,hb⟩;have HK2:=xN (HK1.out.below hb HK1.out.lt);have HB2:=xN (yQ HB1.out HB1.out.size hb);clear hb;have k2:=HK2.out.cell;go_wp2_with fail
 refine(vJz _ x.yC.length (m+x.zB.cntv+x.yF.length) _ (T.yM R7.out HB2.out) (by unfold xX.cntv at hm;omega)).mono ?_;rintro e w3 ⟨rfl,hb⟩;have HK3:=xN (HK2.out.below hb HK2.out.lt);have HB3:=xN (yQ HB2.out HB2.out.size hb);clear hb;have k3:=HK3.out.cell;go_wp2;go_ret
 exact⟨by unfold xX.cntv;first|rfl|go_num|exact wL zM,HB3.out⟩
end Go.Proofs.YtoibekfhepnedaaGreat
