/- Contracts: how much nested data there is. Contracts on whole structs. Contracts: copies of the program. -/
import Derived.Test.YtoibekfhepnedaaGreatQAbExactMix
import Derived.Test.YtoibekfhepnedaaGreatQAaExactMix
import Derived.Test.YtoibekfhepnedaaGreatQAuExactMix
import Derived.Test.YtoibekfhepnedaaGreatQAvExactMix
import Derived.Test.YtoibekfhepnedaaGreatQAhExactMix
import Derived.Test.YtoibekfhepnedaaGreatQApExactMix
set_option linter.unusedVariables false
set_option linter.unusedSimpArgs false
set_option maxHeartbeats 2000000
set_option maxRecDepth 20000
namespace Go.Proofs.YtoibekfhepnedaaGreat
section
open Go.RowKit
theorem xQz (v:Value) (xs:List Int) (n:Int) (w:World) (h0:0≤n) (h1:n≤1048576) (hr:T.rd w (T.ints 2 xs) [v]):
  Calls Tryz.prog 56 #[v,.int .i64 n] w fun e w'=> ∃ m:Int,e= .returned (.int .i64 m)∧ -1≤m∧m≤n∧(0≤m→xs.length≤1048576)∧Below w.heap.size w w':=by
 obtain⟨A,cap,rfl,hl,hc,_⟩:=(T.xB.1 hr).open_;clear hr;by_cases h4:n<xs.length
 ·go_enter Tryz.func56,Tryz.ntmps56
  go_wp2;go_ret
  exact⟨-1,rfl,by omega,by omega,fun h=>by omega,zR⟩
 ·go_enter Tryz.func56,Tryz.ntmps56
  go_wp2;go_ret
  exact⟨_,rfl,by omega,by omega,fun h=>by omega,zR⟩
theorem c_szInt64SS (v:Value) (xs:List (List Int)) (n:Int) (w:World) (h0:0≤n) (h1:n≤1048576) (hr:T.rd w (T.sl 26 1 (xs.map (T.ints 2))) [v]):
  Calls Tryz.prog 64 #[v,.int .i64 n] w fun e w'=> ∃ m:Int,e= .returned (.int .i64 m)∧ -1≤m∧m≤n∧(0≤m→smL (fun l:List Int=>l.length≤1048576) xs)∧Below w.heap.size w w':=by
 obtain⟨A,cap,rfl,hl,hc,hx⟩:=T.yV hr;rw[List.length_map] at hl ⊢;have HX:=xN hx;clear hx hr;by_cases h4:n<xs.length
 ·go_enter Tryz.func64,Tryz.ntmps64
  go_wp2;go_ret
  exact⟨-1,rfl,by omega,by omega,fun h=>by omega,zR⟩
 ·go_enter Tryz.func64,Tryz.ntmps64
  go_wp2
  go_loopw [1,5] (fun t iv wr=> ∃ (k:Nat) (m:Int),k≤xs.length∧iv= .int .i64 (k:Int)∧t= .int .i64 m∧0≤m∧m≤n - xs.length∧(∀ y ∈ xs.take k,(fun l:List Int=>l.length≤1048576) y)∧Below w.heap.size w wr) (fun _ iv _=>xs.length - (intOf iv).toNat)
  case atStart=>exact⟨0,_,Nat.zero_le _,rfl,rfl,by omega,by omega,by simp,zR⟩
  case round=>
   obtain⟨k,m,hk,rfl,rfl,hm0,hm1,ha,hb⟩:=hrel;have HA:=xN ha;have HB:=xN hb;clear ha hb;by_cases hlt:k<xs.length
   ·have hgk:=gE hlt
    obtain⟨b,off,cs,rfl,hbw,hcs,hcell⟩:=HX.out k (T.ints 2 xs[k]) (by rw[List.getElem?_map,hgk];rfl);obtain⟨v3,rfl⟩:=T.rd_one hcs;have d0:=(HB.out.cell hbw).trans (hcell 0 v3 rfl);rw[Nat.mul_one,Nat.add_zero] at d0;have R3:=xN (T.yM hcs HB.out);generalize xs[k]=x at *;have HGK:=xN hgk;clear hgk hcs hcell;go_wp2_with fail
    refine(xQz _ x m _ hm0 zM R3.out).mono ?_;rintro e w3 ⟨q,rfl,hq0,hq1,hq2,hb3⟩;have HB3:=xN (yQ HB.out HB.out.size hb3);clear hb3
    rcases Int.lt_or_le q 0 with hneg|hpos
    ·have hq:=hq2;clear hq2
     go_wp2;go_ret
     exact⟨-1,rfl,by omega,by omega,fun h=>by omega,HB3.out⟩
    ·have HQ:=xN (hq2 hpos);clear hq2
     go_wp2
     go_roundw
     case rel=>exact⟨k+1,q,by omega,by go_num,rfl,by omega,by omega,uHz HA.out HGK.out HQ.out,HB3.out⟩
     case measure=>simp[intOf];omega
   ·obtain rfl:k=xs.length:=by omega
    go_wp2;go_ret
    exact⟨m,rfl,by omega,by omega,fun _=>⟨by omega,uIz HA.out⟩,HB.out⟩
theorem c_szClipS (v:Value) (xs:List xU) (n:Int) (w:World) (h0:0≤n) (h1:n≤1048576) (hr:T.rd w (T.sl 39 5 (xs.map xU.t)) [v]):
  Calls Tryz.prog 199 #[v,.int .i64 n] w fun e w'=> ∃ m:Int,e= .returned (.int .i64 m)∧ -1≤m∧m≤n∧(0≤m→xs.length≤1048576)∧Below w.heap.size w w':=by
 obtain⟨A,cap,rfl,hl,hc,hx⟩:=T.yV hr;rw[List.length_map] at hl ⊢;clear hr hx;by_cases h4:n<xs.length
 ·go_enter Tryz.func199,Tryz.ntmps199
  go_wp2;go_ret
  exact⟨-1,rfl,by omega,by omega,fun h=>by omega,zR⟩
 ·go_enter Tryz.func199,Tryz.ntmps199
  go_wp2;go_ret
  exact⟨_,rfl,by omega,by omega,fun h=>by omega,zR⟩
theorem c_szTrack (x:xQ) (v0:Value) (n:Int) (w:World) (h0:0≤n) (h1:n≤1048576) (hg:x.good) (r0:T.rd w (T.sl 39 5 (x.zZ.map xU.t)) [v0]):
  Calls Tryz.prog 134 #[.agg #[v0],.int .i64 n] w fun e w'=> ∃ m:Int,e= .returned (.int .i64 m)∧ -1≤m∧m≤n∧(0≤m→x.small)∧Below w.heap.size w w':=by
 have R0:=xN r0;clear r0;have HG:=xN hg;clear hg
 go_enter Tryz.func134,Tryz.ntmps134
 have HB0:=xN (show Below w.heap.size w (w.alloc (.cells #[v0] 185)) from zR.alloc zJ _);have HK0:=xN (Bk.born w 185 #[v0]);go_wp2_with fail
 refine(c_szClipS _ x.zZ (n) _ zM zM (T.yM R0.out HB0.out)).mono ?_;rintro e w1 ⟨m1,rfl,a1,b1,s1,hb⟩;have HK1:=xN (HK0.out.below hb (by simp));have HB1:=xN (yQ HB0.out (by simp) hb);clear hb;have k1:=HK1.out.cell
 rcases Int.lt_or_le m1 0 with hn1|hp1
 ·go_wp2
  go_ret
  exact⟨-1,rfl,by omega,by omega,fun h=>by omega,HB1.out⟩
 have S1:=xN (s1 hp1);clear s1;go_wp2;go_ret
 exact⟨m1,rfl,by omega,by omega,fun _=>S1.out,HB1.out⟩
theorem c_szTrackS (v:Value) (xs:List xQ) (n:Int) (w:World) (h0:0≤n) (h1:n≤1048576) (hg: ∀ y ∈ xs,xQ.good y) (hr:T.rd w (T.sl 96 1 (xs.map xQ.t)) [v]):
  Calls Tryz.prog 65 #[v,.int .i64 n] w fun e w'=> ∃ m:Int,e= .returned (.int .i64 m)∧ -1≤m∧m≤n∧(0≤m→smL xQ.small xs)∧Below w.heap.size w w':=by
 obtain⟨A,cap,rfl,hl,hc,hx⟩:=T.yV hr;rw[List.length_map] at hl ⊢;have HX:=xN hx;clear hx hr;have HG:=xN hg;clear hg;by_cases h4:n<xs.length
 ·go_enter Tryz.func65,Tryz.ntmps65
  go_wp2;go_ret
  exact⟨-1,rfl,by omega,by omega,fun h=>by omega,zR⟩
 ·go_enter Tryz.func65,Tryz.ntmps65
  go_wp2
  go_loopw [1,5] (fun t iv wr=> ∃ (k:Nat) (m:Int),k≤xs.length∧iv= .int .i64 (k:Int)∧t= .int .i64 m∧0≤m∧m≤n - xs.length∧(∀ y ∈ xs.take k,(xQ.small) y)∧Below w.heap.size w wr) (fun _ iv _=>xs.length - (intOf iv).toNat)
  case atStart=>exact⟨0,_,Nat.zero_le _,rfl,rfl,by omega,by omega,by simp,zR⟩
  case round=>
   obtain⟨k,m,hk,rfl,rfl,hm0,hm1,ha,hb⟩:=hrel;have HA:=xN ha;have HB:=xN hb;clear ha hb;by_cases hlt:k<xs.length
   ·have hgk:=gE hlt
    obtain⟨b,off,cs,rfl,hbw,hcs,hcell⟩:=HX.out k (xQ.t xs[k]) (by rw[List.getElem?_map,hgk];rfl);have hgd:=HG.out _ (List.getElem_mem hlt);generalize xs[k]=x at *;have HGK:=xN hgk;clear hgk;obtain⟨v0,rfl,hR0⟩:=xQ.yV (show T.rds _ _ _ by simpa only[xQ.t,T.rd] using hcs);have d0:=(HB.out.cell hbw).trans (hcell 0 (v0) rfl);rw[show off+(k * 1+0)=off+k by omega] at d0;have R0:=xN (T.yM hR0 HB.out);clear hR0;clear hcs hcell;go_wp2_with fail
    refine(c_szTrack x v0 m _ hm0 zM hgd R0.out).mono ?_;rintro e w3 ⟨q,rfl,hq0,hq1,hq2,hb3⟩;have HB3:=xN (yQ HB.out HB.out.size hb3);clear hb3
    rcases Int.lt_or_le q 0 with hneg|hpos
    ·have hq:=hq2;clear hq2
     go_wp2;go_ret
     exact⟨-1,rfl,by omega,by omega,fun h=>by omega,HB3.out⟩
    ·have HQ:=xN (hq2 hpos);clear hq2
     go_wp2
     go_roundw
     case rel=>exact⟨k+1,q,by omega,by go_num,rfl,by omega,by omega,uHz HA.out HGK.out HQ.out,HB3.out⟩
     case measure=>simp[intOf];omega
   ·obtain rfl:k=xs.length:=by omega
    go_wp2;go_ret
    exact⟨m,rfl,by omega,by omega,fun _=>⟨by omega,uIz HA.out⟩,HB.out⟩
theorem c_szNode (x:xR) (v3:Value) (n:Int) (w:World) (h0:0≤n) (h1:n≤1048576) (hg:x.good) (r3:T.rd w (T.ints 2 x.zK) [v3]):
  Calls Tryz.prog 246 #[.agg #[.int .i64 x.zG,.int .i64 x.fA,.int .i64 x.fB,v3],.int .i64 n] w fun e w'=> ∃ m:Int,e= .returned (.int .i64 m)∧ -1≤m∧m≤n∧(0≤m→x.small)∧Below w.heap.size w w':=by
 have R3:=xN r3;clear r3;have HG:=xN hg;clear hg
 go_enter Tryz.func246,Tryz.ntmps246
 have HB0:=xN (show Below w.heap.size w (w.alloc (.cells #[.int .i64 x.zG,.int .i64 x.fA,.int .i64 x.fB,v3] 279)) from zR.alloc zJ _);have HK0:=xN (Bk.born w 279 #[.int .i64 x.zG,.int .i64 x.fA,.int .i64 x.fB,v3]);go_wp2_with fail
 refine(xQz _ x.zK (n) _ zM zM (T.yM R3.out HB0.out)).mono ?_;rintro e w1 ⟨m1,rfl,a1,b1,s1,hb⟩;have HK1:=xN (HK0.out.below hb (by simp));have HB1:=xN (yQ HB0.out (by simp) hb);clear hb;have k1:=HK1.out.cell
 rcases Int.lt_or_le m1 0 with hn1|hp1
 ·go_wp2
  go_ret
  exact⟨-1,rfl,by omega,by omega,fun h=>by omega,HB1.out⟩
 have S1:=xN (s1 hp1);clear s1;go_wp2;go_ret
 exact⟨m1,rfl,by omega,by omega,fun _=>S1.out,HB1.out⟩
theorem c_szNodeS (v:Value) (xs:List xR) (n:Int) (w:World) (h0:0≤n) (h1:n≤1048576) (hg: ∀ y ∈ xs,xR.good y) (hr:T.rd w (T.sl 167 4 (xs.map xR.t)) [v]):
  Calls Tryz.prog 200 #[v,.int .i64 n] w fun e w'=> ∃ m:Int,e= .returned (.int .i64 m)∧ -1≤m∧m≤n∧(0≤m→smL xR.small xs)∧Below w.heap.size w w':=by
 obtain⟨A,cap,rfl,hl,hc,hx⟩:=T.yV hr;rw[List.length_map] at hl ⊢;have HX:=xN hx;clear hx hr;have HG:=xN hg;clear hg;by_cases h4:n<xs.length
 ·go_enter Tryz.func200,Tryz.ntmps200
  go_wp2;go_ret
  exact⟨-1,rfl,by omega,by omega,fun h=>by omega,zR⟩
 ·go_enter Tryz.func200,Tryz.ntmps200
  go_wp2
  go_loopw [1,5] (fun t iv wr=> ∃ (k:Nat) (m:Int),k≤xs.length∧iv= .int .i64 (k:Int)∧t= .int .i64 m∧0≤m∧m≤n - xs.length∧(∀ y ∈ xs.take k,(xR.small) y)∧Below w.heap.size w wr) (fun _ iv _=>xs.length - (intOf iv).toNat)
  case atStart=>exact⟨0,_,Nat.zero_le _,rfl,rfl,by omega,by omega,by simp,zR⟩
  case round=>
   obtain⟨k,m,hk,rfl,rfl,hm0,hm1,ha,hb⟩:=hrel;have HA:=xN ha;have HB:=xN hb;clear ha hb;by_cases hlt:k<xs.length
   ·have hgk:=gE hlt
    obtain⟨b,off,cs,rfl,hbw,hcs,hcell⟩:=HX.out k (xR.t xs[k]) (by rw[List.getElem?_map,hgk];rfl);have hgd:=HG.out _ (List.getElem_mem hlt);generalize xs[k]=x at *;have HGK:=xN hgk;clear hgk;obtain⟨v3,rfl,hR3⟩:=xR.yV (show T.rds _ _ _ by simpa only[xR.t,T.rd] using hcs);have d0:=(HB.out.cell hbw).trans (hcell 0 (.int .i64 x.zG) rfl);have d1:=(HB.out.cell hbw).trans (hcell 1 (.int .i64 x.fA) rfl);have d2:=(HB.out.cell hbw).trans (hcell 2 (.int .i64 x.fB) rfl);have d3:=(HB.out.cell hbw).trans (hcell 3 (v3) rfl);rw[show off+(k * 4+0)=off+k * 4 by omega] at d0;rw[show off+(k * 4+1)=off+k * 4+1 by omega] at d1;rw[show off+(k * 4+2)=off+k * 4+2 by omega] at d2;rw[show off+(k * 4+3)=off+k * 4+3 by omega] at d3;have R3:=xN (T.yM hR3 HB.out);clear hR3;clear hcs hcell;go_wp2_with fail
    refine(c_szNode x v3 m _ hm0 zM hgd R3.out).mono ?_;rintro e w3 ⟨q,rfl,hq0,hq1,hq2,hb3⟩;have HB3:=xN (yQ HB.out HB.out.size hb3);clear hb3
    rcases Int.lt_or_le q 0 with hneg|hpos
    ·have hq:=hq2;clear hq2
     go_wp2;go_ret
     exact⟨-1,rfl,by omega,by omega,fun h=>by omega,HB3.out⟩
    ·have HQ:=xN (hq2 hpos);clear hq2
     go_wp2
     go_roundw
     case rel=>exact⟨k+1,q,by omega,by go_num,rfl,by omega,by omega,uHz HA.out HGK.out HQ.out,HB3.out⟩
     case measure=>simp[intOf];omega
   ·obtain rfl:k=xs.length:=by omega
    go_wp2;go_ret
    exact⟨m,rfl,by omega,by omega,fun _=>⟨by omega,uIz HA.out⟩,HB.out⟩
theorem c_szPatch (x:xO) (v1:Value) (v2:Value) (v3:Value) (n:Int) (w:World) (h0:0≤n) (h1:n≤1048576) (hg:x.good) (r1:T.rd w (T.sl 26 1 (x.zV.map (T.ints 2))) [v1]) (r2:T.rd w (T.sl 167 4 (x.zC.map xR.t)) [v2]) (r3:T.rd w (T.ints 2 x.zT) [v3]):
  Calls Tryz.prog 135 #[.agg #[.int .i64 x.zS,v1,v2,v3],.int .i64 n] w fun e w'=> ∃ m:Int,e= .returned (.int .i64 m)∧ -1≤m∧m≤n∧(0≤m→x.small)∧Below w.heap.size w w':=by
 have R1:=xN r1;have R2:=xN r2;have R3:=xN r3;clear r1 r2 r3;have HG:=xN hg;clear hg
 go_enter Tryz.func135,Tryz.ntmps135
 have HB0:=xN (show Below w.heap.size w (w.alloc (.cells #[.int .i64 x.zS,v1,v2,v3] 189)) from zR.alloc zJ _);have HK0:=xN (Bk.born w 189 #[.int .i64 x.zS,v1,v2,v3]);go_wp2_with fail
 refine(c_szInt64SS _ x.zV (n) _ zM zM (T.yM R1.out HB0.out)).mono ?_;rintro e w1 ⟨m1,rfl,a1,b1,s1,hb⟩;have HK1:=xN (HK0.out.below hb (by simp));have HB1:=xN (yQ HB0.out (by simp) hb);clear hb;have k1:=HK1.out.cell
 rcases Int.lt_or_le m1 0 with hn1|hp1
 ·go_wp2
  go_ret
  exact⟨-1,rfl,by omega,by omega,fun h=>by omega,HB1.out⟩
 have S1:=xN (s1 hp1);clear s1;go_wp2_with fail
 refine(c_szNodeS _ x.zC (m1) _ zM zM (HG.out.2.2.1) (T.yM R2.out HB1.out)).mono ?_;rintro e w2 ⟨m2,rfl,a2,b2,s2,hb⟩;have HK2:=xN (HK1.out.below hb HK1.out.lt);have HB2:=xN (yQ HB1.out HB1.out.size hb);clear hb;have k2:=HK2.out.cell
 rcases Int.lt_or_le m2 0 with hn2|hp2
 ·go_wp2
  go_ret
  exact⟨-1,rfl,by omega,by omega,fun h=>by omega,HB2.out⟩
 have S2:=xN (s2 hp2);clear s2;go_wp2_with fail
 refine(xQz _ x.zT (m2) _ zM zM (T.yM R3.out HB2.out)).mono ?_;rintro e w3 ⟨m3,rfl,a3,b3,s3,hb⟩;have HK3:=xN (HK2.out.below hb HK2.out.lt);have HB3:=xN (yQ HB2.out HB2.out.size hb);clear hb;have k3:=HK3.out.cell
 rcases Int.lt_or_le m3 0 with hn3|hp3
 ·go_wp2
  go_ret
  exact⟨-1,rfl,by omega,by omega,fun h=>by omega,HB3.out⟩
 have S3:=xN (s3 hp3);clear s3;go_wp2;go_ret
 exact⟨m3,rfl,by omega,by omega,fun _=>⟨S1.out,S2.out,S3.out⟩,HB3.out⟩
theorem c_szPatchS (v:Value) (xs:List xO) (n:Int) (w:World) (h0:0≤n) (h1:n≤1048576) (hg: ∀ y ∈ xs,xO.good y) (hr:T.rd w (T.sl 108 4 (xs.map xO.t)) [v]):
  Calls Tryz.prog 66 #[v,.int .i64 n] w fun e w'=> ∃ m:Int,e= .returned (.int .i64 m)∧ -1≤m∧m≤n∧(0≤m→smL xO.small xs)∧Below w.heap.size w w':=by
 obtain⟨A,cap,rfl,hl,hc,hx⟩:=T.yV hr;rw[List.length_map] at hl ⊢;have HX:=xN hx;clear hx hr;have HG:=xN hg;clear hg;by_cases h4:n<xs.length
 ·go_enter Tryz.func66,Tryz.ntmps66
  go_wp2;go_ret
  exact⟨-1,rfl,by omega,by omega,fun h=>by omega,zR⟩
 ·go_enter Tryz.func66,Tryz.ntmps66
  go_wp2
  go_loopw [1,5] (fun t iv wr=> ∃ (k:Nat) (m:Int),k≤xs.length∧iv= .int .i64 (k:Int)∧t= .int .i64 m∧0≤m∧m≤n - xs.length∧(∀ y ∈ xs.take k,(xO.small) y)∧Below w.heap.size w wr) (fun _ iv _=>xs.length - (intOf iv).toNat)
  case atStart=>exact⟨0,_,Nat.zero_le _,rfl,rfl,by omega,by omega,by simp,zR⟩
  case round=>
   obtain⟨k,m,hk,rfl,rfl,hm0,hm1,ha,hb⟩:=hrel;have HA:=xN ha;have HB:=xN hb;clear ha hb;by_cases hlt:k<xs.length
   ·have hgk:=gE hlt
    obtain⟨b,off,cs,rfl,hbw,hcs,hcell⟩:=HX.out k (xO.t xs[k]) (by rw[List.getElem?_map,hgk];rfl);have hgd:=HG.out _ (List.getElem_mem hlt);generalize xs[k]=x at *;have HGK:=xN hgk;clear hgk;obtain⟨v1,v2,v3,rfl,hR1,hR2,hR3⟩:=xO.yV (show T.rds _ _ _ by simpa only[xO.t,T.rd] using hcs);have d0:=(HB.out.cell hbw).trans (hcell 0 (.int .i64 x.zS) rfl);have d1:=(HB.out.cell hbw).trans (hcell 1 (v1) rfl);have d2:=(HB.out.cell hbw).trans (hcell 2 (v2) rfl);have d3:=(HB.out.cell hbw).trans (hcell 3 (v3) rfl);rw[show off+(k * 4+0)=off+k * 4 by omega] at d0;rw[show off+(k * 4+1)=off+k * 4+1 by omega] at d1;rw[show off+(k * 4+2)=off+k * 4+2 by omega] at d2;rw[show off+(k * 4+3)=off+k * 4+3 by omega] at d3;have R1:=xN (T.yM hR1 HB.out);clear hR1;have R2:=xN (T.yM hR2 HB.out);clear hR2;have R3:=xN (T.yM hR3 HB.out);clear hR3;clear hcs hcell;go_wp2_with fail
    refine(c_szPatch x v1 v2 v3 m _ hm0 zM hgd R1.out R2.out R3.out).mono ?_;rintro e w3 ⟨q,rfl,hq0,hq1,hq2,hb3⟩;have HB3:=xN (yQ HB.out HB.out.size hb3);clear hb3
    rcases Int.lt_or_le q 0 with hneg|hpos
    ·have hq:=hq2;clear hq2
     go_wp2;go_ret
     exact⟨-1,rfl,by omega,by omega,fun h=>by omega,HB3.out⟩
    ·have HQ:=xN (hq2 hpos);clear hq2
     go_wp2
     go_roundw
     case rel=>exact⟨k+1,q,by omega,by go_num,rfl,by omega,by omega,uHz HA.out HGK.out HQ.out,HB3.out⟩
     case measure=>simp[intOf];omega
   ·obtain rfl:k=xs.length:=by omega
    go_wp2;go_ret
    exact⟨m,rfl,by omega,by omega,fun _=>⟨by omega,uIz HA.out⟩,HB.out⟩
theorem c_szSendS (v:Value) (xs:List xV) (n:Int) (w:World) (h0:0≤n) (h1:n≤1048576) (hr:T.rd w (T.sl 98 2 (xs.map xV.t)) [v]):
  Calls Tryz.prog 247 #[v,.int .i64 n] w fun e w'=> ∃ m:Int,e= .returned (.int .i64 m)∧ -1≤m∧m≤n∧(0≤m→xs.length≤1048576)∧Below w.heap.size w w':=by
 obtain⟨A,cap,rfl,hl,hc,hx⟩:=T.yV hr;rw[List.length_map] at hl ⊢;clear hr hx;by_cases h4:n<xs.length
 ·go_enter Tryz.func247,Tryz.ntmps247
  go_wp2;go_ret
  exact⟨-1,rfl,by omega,by omega,fun h=>by omega,zR⟩
 ·go_enter Tryz.func247,Tryz.ntmps247
  go_wp2;go_ret
  exact⟨_,rfl,by omega,by omega,fun h=>by omega,zR⟩
theorem c_szStrip (x:xP) (v2:Value) (n:Int) (w:World) (h0:0≤n) (h1:n≤1048576) (hg:x.good) (r2:T.rd w (T.sl 98 2 (x.zY.map xV.t)) [v2]):
  Calls Tryz.prog 201 #[.agg #[.string x.yE,.int .i64 x.zU,v2],.int .i64 n] w fun e w'=> ∃ m:Int,e= .returned (.int .i64 m)∧ -1≤m∧m≤n∧(0≤m→x.small)∧Below w.heap.size w w':=by
 have R2:=xN r2;clear r2;have hgs0:x.yE.size≤9223372036854775807:=hg.1;have HG:=xN hg;clear hg
 go_enter Tryz.func201,Tryz.ntmps201
 have HB0:=xN (show Below w.heap.size w (w.alloc (.cells #[.string x.yE,.int .i64 x.zU,v2] 243)) from zR.alloc zJ _);have HK0:=xN (Bk.born w 243 #[.string x.yE,.int .i64 x.zU,v2]);by_cases hs0:n<x.yE.size
 ·go_wp2
  go_ret
  exact⟨-1,rfl,by omega,by omega,fun h=>by omega,(by first|exact HB0.out|exact undrew HB0.out|exact Below.drew HB0.out|exact Below.drew (undrew HB0.out)|exact wP HB0.out|exact below_drewN HB0.out _)⟩
 go_wp2_with fail
 refine(c_szSendS _ x.zY (n - x.yE.size) _ zM zM (T.yM R2.out HB0.out)).mono ?_;rintro e w1 ⟨m1,rfl,a1,b1,s1,hb⟩;have HK1:=xN (HK0.out.below hb (by simp));have HB1:=xN (yQ HB0.out (by simp) hb);clear hb;have k1:=HK1.out.cell
 rcases Int.lt_or_le m1 0 with hn1|hp1
 ·go_wp2
  go_ret
  exact⟨-1,rfl,by omega,by omega,fun h=>by omega,HB1.out⟩
 have S1:=xN (s1 hp1);clear s1;go_wp2;go_ret
 exact⟨m1,rfl,by omega,by omega,fun _=>⟨by omega,S1.out⟩,HB1.out⟩
theorem c_szStripS (v:Value) (xs:List xP) (n:Int) (w:World) (h0:0≤n) (h1:n≤1048576) (hg: ∀ y ∈ xs,xP.good y) (hr:T.rd w (T.sl 101 3 (xs.map xP.t)) [v]):
  Calls Tryz.prog 136 #[v,.int .i64 n] w fun e w'=> ∃ m:Int,e= .returned (.int .i64 m)∧ -1≤m∧m≤n∧(0≤m→smL xP.small xs)∧Below w.heap.size w w':=by
 obtain⟨A,cap,rfl,hl,hc,hx⟩:=T.yV hr;rw[List.length_map] at hl ⊢;have HX:=xN hx;clear hx hr;have HG:=xN hg;clear hg;by_cases h4:n<xs.length
 ·go_enter Tryz.func136,Tryz.ntmps136
  go_wp2;go_ret
  exact⟨-1,rfl,by omega,by omega,fun h=>by omega,zR⟩
 ·go_enter Tryz.func136,Tryz.ntmps136
  go_wp2
  go_loopw [1,5] (fun t iv wr=> ∃ (k:Nat) (m:Int),k≤xs.length∧iv= .int .i64 (k:Int)∧t= .int .i64 m∧0≤m∧m≤n - xs.length∧(∀ y ∈ xs.take k,(xP.small) y)∧Below w.heap.size w wr) (fun _ iv _=>xs.length - (intOf iv).toNat)
  case atStart=>exact⟨0,_,Nat.zero_le _,rfl,rfl,by omega,by omega,by simp,zR⟩
  case round=>
   obtain⟨k,m,hk,rfl,rfl,hm0,hm1,ha,hb⟩:=hrel;have HA:=xN ha;have HB:=xN hb;clear ha hb;by_cases hlt:k<xs.length
   ·have hgk:=gE hlt
    obtain⟨b,off,cs,rfl,hbw,hcs,hcell⟩:=HX.out k (xP.t xs[k]) (by rw[List.getElem?_map,hgk];rfl);have hgd:=HG.out _ (List.getElem_mem hlt);generalize xs[k]=x at *;have HGK:=xN hgk;clear hgk;obtain⟨v2,rfl,hR2⟩:=xP.yV (show T.rds _ _ _ by simpa only[xP.t,T.rd] using hcs);have d0:=(HB.out.cell hbw).trans (hcell 0 (.string x.yE) rfl);have d1:=(HB.out.cell hbw).trans (hcell 1 (.int .i64 x.zU) rfl);have d2:=(HB.out.cell hbw).trans (hcell 2 (v2) rfl);rw[show off+(k * 3+0)=off+k * 3 by omega] at d0;rw[show off+(k * 3+1)=off+k * 3+1 by omega] at d1;rw[show off+(k * 3+2)=off+k * 3+2 by omega] at d2;have R2:=xN (T.yM hR2 HB.out);clear hR2;clear hcs hcell;go_wp2_with fail
    refine(c_szStrip x v2 m _ hm0 zM hgd R2.out).mono ?_;rintro e w3 ⟨q,rfl,hq0,hq1,hq2,hb3⟩;have HB3:=xN (yQ HB.out HB.out.size hb3);clear hb3
    rcases Int.lt_or_le q 0 with hneg|hpos
    ·have hq:=hq2;clear hq2
     go_wp2;go_ret
     exact⟨-1,rfl,by omega,by omega,fun h=>by omega,HB3.out⟩
    ·have HQ:=xN (hq2 hpos);clear hq2
     go_wp2
     go_roundw
     case rel=>exact⟨k+1,q,by omega,by go_num,rfl,by omega,by omega,uHz HA.out HGK.out HQ.out,HB3.out⟩
     case measure=>simp[intOf];omega
   ·obtain rfl:k=xs.length:=by omega
    go_wp2;go_ret
    exact⟨m,rfl,by omega,by omega,fun _=>⟨by omega,uIz HA.out⟩,HB.out⟩
theorem c_szMixer (x:wG) (v0:Value) (n:Int) (w:World) (h0:0≤n) (h1:n≤1048576) (hg:x.good) (r0:T.rd w (T.sl 101 3 (x.zD.map xP.t)) [v0]):
  Calls Tryz.prog 67 #[.agg #[v0],.int .i64 n] w fun e w'=> ∃ m:Int,e= .returned (.int .i64 m)∧ -1≤m∧m≤n∧(0≤m→x.small)∧Below w.heap.size w w':=by
 have R0:=xN r0;clear r0;have HG:=xN hg;clear hg
 go_enter Tryz.func67,Tryz.ntmps67
 have HB0:=xN (show Below w.heap.size w (w.alloc (.cells #[v0] 57)) from zR.alloc zJ _);have HK0:=xN (Bk.born w 57 #[v0]);go_wp2_with fail
 refine(c_szStripS _ x.zD (n) _ zM zM (HG.out) (T.yM R0.out HB0.out)).mono ?_;rintro e w1 ⟨m1,rfl,a1,b1,s1,hb⟩;have HK1:=xN (HK0.out.below hb (by simp));have HB1:=xN (yQ HB0.out (by simp) hb);clear hb;have k1:=HK1.out.cell
 rcases Int.lt_or_le m1 0 with hn1|hp1
 ·go_wp2
  go_ret
  exact⟨-1,rfl,by omega,by omega,fun h=>by omega,HB1.out⟩
 have S1:=xN (s1 hp1);clear s1;go_wp2;go_ret
 exact⟨m1,rfl,by omega,by omega,fun _=>S1.out,HB1.out⟩
theorem c_szSession (x:xS) (v1:Value) (v2:Value) (v3:Value) (v4:Value) (v5:Value) (n:Int) (w:World) (h0:0≤n) (h1:n≤1048576) (hg:x.good) (r1:T.rd w (T.sl 26 1 (x.zI.map (T.ints 2))) [v1]) (r2:T.rd w (T.sl 96 1 (x.zL.map xQ.t)) [v2]) (r3:T.rd w (T.ints 2 x.zX) [v3]) (r4:T.rd w (T.sl 108 4 (x.zO.map xO.t)) [v4]) (r5:T.rd w (T.sl 101 3 (x.zH.zD.map xP.t)) [v5]):
  Calls Tryz.prog 24 #[.agg #[.int .i64 x.zF,v1,v2,v3,v4,v5],.int .i64 n] w fun e w'=> ∃ m:Int,e= .returned (.int .i64 m)∧ -1≤m∧m≤n∧(0≤m→x.small)∧Below w.heap.size w w':=by
 have R1:=xN r1;have R2:=xN r2;have R3:=xN r3;have R4:=xN r4;have R5:=xN r5;clear r1 r2 r3 r4 r5;have HG:=xN hg;clear hg
 go_enter Tryz.func24,Tryz.ntmps24
 have HB0:=xN (show Below w.heap.size w (w.alloc (.cells #[.int .i64 x.zF,v1,v2,v3,v4,v5] 59)) from zR.alloc zJ _);have HK0:=xN (Bk.born w 59 #[.int .i64 x.zF,v1,v2,v3,v4,v5]);go_wp2_with fail
 refine(c_szInt64SS _ x.zI (n) _ zM zM (T.yM R1.out HB0.out)).mono ?_;rintro e w1 ⟨m1,rfl,a1,b1,s1,hb⟩;have HK1:=xN (HK0.out.below hb (by simp));have HB1:=xN (yQ HB0.out (by simp) hb);clear hb;have k1:=HK1.out.cell
 rcases Int.lt_or_le m1 0 with hn1|hp1
 ·go_wp2
  go_ret
  exact⟨-1,rfl,by omega,by omega,fun h=>by omega,HB1.out⟩
 have S1:=xN (s1 hp1);clear s1;go_wp2_with fail
 refine(c_szTrackS _ x.zL (m1) _ zM zM (HG.out.2.2.1) (T.yM R2.out HB1.out)).mono ?_;rintro e w2 ⟨m2,rfl,a2,b2,s2,hb⟩;have HK2:=xN (HK1.out.below hb HK1.out.lt);have HB2:=xN (yQ HB1.out HB1.out.size hb);clear hb;have k2:=HK2.out.cell
 rcases Int.lt_or_le m2 0 with hn2|hp2
 ·go_wp2
  go_ret
  exact⟨-1,rfl,by omega,by omega,fun h=>by omega,HB2.out⟩
 have S2:=xN (s2 hp2);clear s2;go_wp2_with fail
 refine(xQz _ x.zX (m2) _ zM zM (T.yM R3.out HB2.out)).mono ?_;rintro e w3 ⟨m3,rfl,a3,b3,s3,hb⟩;have HK3:=xN (HK2.out.below hb HK2.out.lt);have HB3:=xN (yQ HB2.out HB2.out.size hb);clear hb;have k3:=HK3.out.cell
 rcases Int.lt_or_le m3 0 with hn3|hp3
 ·go_wp2
  go_ret
  exact⟨-1,rfl,by omega,by omega,fun h=>by omega,HB3.out⟩
 have S3:=xN (s3 hp3);clear s3;go_wp2_with fail
 refine(c_szPatchS _ x.zO (m3) _ zM zM (HG.out.2.2.2.2.1) (T.yM R4.out HB3.out)).mono ?_;rintro e w4 ⟨m4,rfl,a4,b4,s4,hb⟩;have HK4:=xN (HK3.out.below hb HK3.out.lt);have HB4:=xN (yQ HB3.out HB3.out.size hb);clear hb;have k4:=HK4.out.cell
 rcases Int.lt_or_le m4 0 with hn4|hp4
 ·go_wp2
  go_ret
  exact⟨-1,rfl,by omega,by omega,fun h=>by omega,HB4.out⟩
 have S4:=xN (s4 hp4);clear s4;go_wp2_with fail
 refine(c_szMixer x.zH v5 (m4) _ zM zM (HG.out.2.2.2.2.2) (T.yM R5.out HB4.out)).mono ?_;rintro e w5 ⟨m5,rfl,a5,b5,s5,hb⟩;have HK5:=xN (HK4.out.below hb HK4.out.lt);have HB5:=xN (yQ HB4.out HB4.out.size hb);clear hb;have k5:=HK5.out.cell
 rcases Int.lt_or_le m5 0 with hn5|hp5
 ·go_wp2
  go_ret
  exact⟨-1,rfl,by omega,by omega,fun h=>by omega,HB5.out⟩
 have S5:=xN (s5 hp5);clear s5;go_wp2;go_ret
 exact⟨m5,rfl,by omega,by omega,fun _=>⟨S1.out,S2.out,S3.out,S4.out,S5.out⟩,HB5.out⟩
theorem c_szCache (x:xX) (v1:Value) (v2:Value) (v3:Value) (v4:Value) (v5:Value) (v6:Value) (v7:Value) (n:Int) (w:World) (h0:0≤n) (h1:n≤1048576) (hg:x.good) (r1:T.rd w (T.sl 26 1 (x.zB.zI.map (T.ints 2))) [v1]) (r2:T.rd w (T.sl 96 1 (x.zB.zL.map xQ.t)) [v2]) (r3:T.rd w (T.ints 2 x.zB.zX) [v3]) (r4:T.rd w (T.sl 108 4 (x.zB.zO.map xO.t)) [v4]) (r5:T.rd w (T.sl 101 3 (x.zB.zH.zD.map xP.t)) [v5]) (r6:T.rd w (T.ints 2 x.yF) [v6]) (r7:T.rd w (T.ints 2 x.yC) [v7]):
  Calls Tryz.prog 19 #[.agg #[.int .i64 x.zB.zF,v1,v2,v3,v4,v5,v6,v7],.int .i64 n] w fun e w'=> ∃ m:Int,e= .returned (.int .i64 m)∧ -1≤m∧m≤n∧(0≤m→x.small)∧Below w.heap.size w w':=by
 have R1:=xN r1;have R2:=xN r2;have R3:=xN r3;have R4:=xN r4;have R5:=xN r5;have R6:=xN r6;have R7:=xN r7;clear r1 r2 r3 r4 r5 r6 r7;have HG:=xN hg;clear hg
 go_enter Tryz.func19,Tryz.ntmps19
 have HB0:=xN (show Below w.heap.size w (w.alloc (.cells #[.int .i64 x.zB.zF,v1,v2,v3,v4,v5,v6,v7] 61)) from zR.alloc zJ _);have HK0:=xN (Bk.born w 61 #[.int .i64 x.zB.zF,v1,v2,v3,v4,v5,v6,v7]);go_wp2_with fail
 refine(c_szSession x.zB v1 v2 v3 v4 v5 (n) _ zM zM ⟨HG.out.1,HG.out.2.1,HG.out.2.2.1,HG.out.2.2.2.1,HG.out.2.2.2.2.1,HG.out.2.2.2.2.2.1⟩ (T.yM R1.out HB0.out) (T.yM R2.out HB0.out) (T.yM R3.out HB0.out) (T.yM R4.out HB0.out) (T.yM R5.out HB0.out)).mono ?_;rintro e w1 ⟨m1,rfl,a1,b1,s1,hb⟩;have HK1:=xN (HK0.out.below hb (by simp));have HB1:=xN (yQ HB0.out (by simp) hb);clear hb;have k1:=HK1.out.cell
 rcases Int.lt_or_le m1 0 with hn1|hp1
 ·go_wp2
  go_ret
  exact⟨-1,rfl,by omega,by omega,fun h=>by omega,HB1.out⟩
 have S1:=xN (s1 hp1);clear s1;go_wp2_with fail
 refine(xQz _ x.yF (m1) _ zM zM (T.yM R6.out HB1.out)).mono ?_;rintro e w2 ⟨m2,rfl,a2,b2,s2,hb⟩;have HK2:=xN (HK1.out.below hb HK1.out.lt);have HB2:=xN (yQ HB1.out HB1.out.size hb);clear hb;have k2:=HK2.out.cell
 rcases Int.lt_or_le m2 0 with hn2|hp2
 ·go_wp2
  go_ret
  exact⟨-1,rfl,by omega,by omega,fun h=>by omega,HB2.out⟩
 have S2:=xN (s2 hp2);clear s2;go_wp2_with fail
 refine(xQz _ x.yC (m2) _ zM zM (T.yM R7.out HB2.out)).mono ?_;rintro e w3 ⟨m3,rfl,a3,b3,s3,hb⟩;have HK3:=xN (HK2.out.below hb HK2.out.lt);have HB3:=xN (yQ HB2.out HB2.out.size hb);clear hb;have k3:=HK3.out.cell
 rcases Int.lt_or_le m3 0 with hn3|hp3
 ·go_wp2
  go_ret
  exact⟨-1,rfl,by omega,by omega,fun h=>by omega,HB3.out⟩
 have S3:=xN (s3 hp3);clear s3;go_wp2;go_ret
 exact⟨m3,rfl,by omega,by omega,fun _=>⟨S1.out.1,S1.out.2.1,S1.out.2.2.1,S1.out.2.2.2.1,S1.out.2.2.2.2,S2.out,S3.out⟩,HB3.out⟩
end
section
open Go.RowKit
theorem T.rds_below {w w':World} {x:List T} {cs:List Value} (h:T.rds w x cs) (hb:Below w.heap.size w w'):T.rds w' x cs:=T.rds_keep hb.size hb.block x cs h
theorem zBy (x:xS) (cs:List Value) (w:World) (hs:x.small) (h:T.rds w x.fs cs):Calls Tryz.prog 26 #[.agg cs.toArray] w fun e w'=> ∃ ds,e= .returned (.agg ds.toArray)∧T.rds w' x.fs ds∧Below w.heap.size w w':=by
 obtain⟨v1,v2,v3,v4,v5,rfl,h1,h2,h3,h4,h5⟩:=xS.yV h;refine(zAy x _ _ _ _ _ w hs h1 h2 h3 h4 h5).mono ?_;rintro e w' ⟨u1,F1,u2,F2,u3,F3,u4,F4,u5,F5,rfl,o1,o2,o3,o4,o5,sg,hb⟩;exact⟨_,rfl,xS.rd_mk (T.ow_rd _ _ _ o1) (T.ow_rd _ _ _ o2) (T.ow_rd _ _ _ o3) (T.ow_rd _ _ _ o4) (T.ow_rd _ _ _ o5),hb⟩
theorem b_eqSession (x:xS) (cs ds:List Value) (w:World) (h:T.rds w x.fs cs) (g:T.rds w x.fs ds):Calls Tryz.prog 28 #[.agg cs.toArray,.agg ds.toArray] w fun e w'=>e= .returned (.bool true)∧Below w.heap.size w w':=by
 obtain⟨v1,v2,v3,v4,v5,rfl,h1,h2,h3,h4,h5⟩:=xS.yV h;obtain⟨u1,u2,u3,u4,u5,rfl,k1,k2,k3,k4,k5⟩:=xS.yV g;exact c_eqSession x _ _ _ _ _ _ _ _ _ _ w h1 h2 h3 h4 h5 k1 k2 k3 k4 k5
theorem wKz (x:xX) (cs:List Value) (w:World) (hs:x.small) (h:T.rds w x.fs cs):Calls Tryz.prog 21 #[.agg cs.toArray] w fun e w'=> ∃ ds,e= .returned (.agg ds.toArray)∧T.rds w' x.fs ds∧Below w.heap.size w w':=by
 obtain⟨v1,v2,v3,v4,v5,v6,v7,rfl,h1,h2,h3,h4,h5,h6,h7⟩:=xX.yV h;refine(c_toCache x _ _ _ _ _ _ _ w hs h1 h2 h3 h4 h5 h6 h7).mono ?_;rintro e w' ⟨u1,F1,u2,F2,u3,F3,u4,F4,u5,F5,u6,F6,u7,F7,rfl,o1,o2,o3,o4,o5,o6,o7,sg,hb⟩;exact⟨_,rfl,xX.rd_mk (T.ow_rd _ _ _ o1) (T.ow_rd _ _ _ o2) (T.ow_rd _ _ _ o3) (T.ow_rd _ _ _ o4) (T.ow_rd _ _ _ o5) (T.ow_rd _ _ _ o6) (T.ow_rd _ _ _ o7),hb⟩
theorem zKz (x:xX) (cs ds:List Value) (w:World) (h:T.rds w x.fs cs) (g:T.rds w x.fs ds):Calls Tryz.prog 23 #[.agg cs.toArray,.agg ds.toArray] w fun e w'=>e= .returned (.bool true)∧Below w.heap.size w w':=by
 obtain⟨v1,v2,v3,v4,v5,v6,v7,rfl,h1,h2,h3,h4,h5,h6,h7⟩:=xX.yV h;obtain⟨u1,u2,u3,u4,u5,u6,u7,rfl,k1,k2,k3,k4,k5,k6,k7⟩:=xX.yV g;exact c_eqCache x _ _ _ _ _ _ _ _ _ _ _ _ _ _ w h1 h2 h3 h4 h5 h6 h7 k1 k2 k3 k4 k5 k6 k7
end
section
open Go.RowKit
theorem c_clones (v:Value) (xs:List (List Int)) (w:World) (hs:smL (fun l:List Int=>l.length≤1048576) xs) (hr:T.rd w (T.sl 26 1 (xs.map (T.ints 2))) [v]):
  Calls Tryz.prog 111 #[v] w fun e w'=> ∃ v' F,e= .returned v'∧Own w.heap.size w' (T.sl 26 1 (xs.map (T.ints 2))) F v'∧Below w.heap.size w w':=by
 obtain⟨A,cap,rfl,hl,hc,hx⟩:=T.yU hr;have HX:=xN hx;have HS:=xN hs;clear hx hr hs;have HL:=xN HS.out.1;have HO0:=xN (Own.born (World.ownsRow_made w #[] 0 zJ (by decide) rfl:(w.alloc (.cells #[] 26)).ownsRow w.heap.size 26 1 (.slice (some ⟨w.heap.size,0,none⟩) 0 0) 0 []));have HB0:=xN (show Below w.heap.size w (w.alloc (.cells #[] 26)) from zR.alloc zJ _)
 go_enter Tryz.func111,Tryz.ntmps111
 go_wp2
 go_loopw [3,9] (fun r i wr=> ∃ k F,k≤xs.length∧i= .int .i64 (k:Int)∧Own w.heap.size wr (T.sl 26 1 ((xs.take k).map (T.ints 2))) F r∧Below w.heap.size w wr) (fun _ i _=>xs.length - (intOf i).toNat)
 case atStart=>exact⟨0,_,Nat.zero_le _,rfl,by rw[List.take_zero];exact HO0.out,HB0.out⟩
 case round=>
  obtain⟨k,F,hk,rfl,ho,hb⟩:=hrel;have HO:=xN ho;have HB:=xN hb;clear ho hb;by_cases hlt:k<xs.length
  ·have hgk:=gE hlt
   obtain⟨b,off,cs,rfl,hb,hcs,hcell⟩:=HX.out k xs[k] hgk;have hll:=HS.out.2 xs[k] (List.getElem_mem hlt);generalize xs[k]=l at *;have HG:=xN hgk;clear hgk;obtain⟨v3,rfl⟩:=T.rd_one hcs;have d0:=(HB.out.cell hb).trans (hcell 0 v3 rfl);rw[Nat.mul_one,Nat.add_zero] at d0;have hb2:b<wr.heap.size:=zW hb HB.out.size;have R:=xN (T.xB.1 hcs);clear hcs hcell;obtain⟨A3,c3,rfl,l3,m3,x3⟩:=R.out.open_;clear x3;have HLL:=xN hll;clear hll;go_wp2_with fail
   refine(yFz _ l _ (Rd.below R.out HB.out) HLL.out).mono ?_;rintro e w1 ⟨v1,rfl,ho1,hb1⟩;obtain⟨A1,c1,rfl,-,-,-⟩:=ho1.rd.open_;have HN1:=xN (Nv.ints ho1 hb1);have HO1:=xN (HO.out.all hb1);have HB1:=xN (yQ HB.out HB.out.size hb1);have hsz:wr.heap.size≤w1.heap.size:=hb1.size;clear ho1 hb1;go_wp2_with (at_builtin;refine vBz rfl _ _ _ rfl w.heap.size 26 _ 1 24 Tryz.underlying24 vK rfl zM rfl HO1.out HN1.out.ow HN1.out.nodup (fun b hb=>Nat.le_trans HB.out.size (HN1.out.lo b hb)) (fun b hb hb2=>by have h1:=HO.out.lt b hb;have h2:=HN1.out.lo b hb2;omega) rfl rfl (by rw[List.length_map,List.length_take];have:=HL.out;omega) (by rw[List.length_map,List.length_take];have:=HL.out;omega) HB1.out.size ?_;intro v8 w8 F8 ho8 hg8 hv8;have HO8:=xN ho8;have HB8:=xN (HO1.out.below HB1.out HB1.out.size hg8);clear ho8 hg8 hv8)
   go_roundw
   case rel=>exact⟨k+1,F8,by omega,by go_num,by rw[xZ HG.out,List.map_append];exact HO8.out,HB8.out⟩
   case measure=>simp[intOf];omega
  ·obtain rfl:k=xs.length:=by omega
   go_wp2;go_ret
   exact⟨_,F,rfl,by have:=HO.out;rwa [List.take_length] at this,HB.out⟩
theorem c_copyNode (x:xR) (cs:List Value) (w:World) (hs:x.small) (h:T.rds w x.fs cs):Calls Tryz.prog 167 #[.agg cs.toArray] w fun e w'=> ∃ v F,e= .returned (.agg #[.int .i64 x.zG,.int .i64 x.fA,.int .i64 x.fB,v])∧Nw w w' x.fs F [.int .i64 x.zG,.int .i64 x.fA,.int .i64 x.fB,v]:=by
 obtain⟨v3,rfl,h3⟩:=xR.yV h;have h3i:=T.xB.1 h3;obtain⟨A,cap,rfl,hl,hm,hx⟩:=h3i.open_;have R:=xN h3i;clear hx h3 h3i h;have HS:=xN (show x.zK.length≤1048576 from hs);clear hs;have HB0:=xN (show Below w.heap.size w ((w.alloc (.cells #[.int .i64 x.zG,.int .i64 x.fA,.int .i64 x.fB,.slice A x.zK.length cap] 167)).alloc (.cells #[.int .i64 0,.int .i64 0,.int .i64 0,.slice none 0 0] 167)) from(zR.alloc zJ _).alloc (by simp) _);have HK0:=xN ((Bk.born w 167 #[.int .i64 x.zG,.int .i64 x.fA,.int .i64 x.fB,.slice A x.zK.length cap]).alloc (.cells #[.int .i64 0,.int .i64 0,.int .i64 0,.slice none 0 0] 167));have HR0:=xN (Bk.born1' w (.cells #[.int .i64 x.zG,.int .i64 x.fA,.int .i64 x.fB,.slice A x.zK.length cap] 167) 167 #[.int .i64 0,.int .i64 0,.int .i64 0,.slice none 0 0])
 go_enter Tryz.func167,Tryz.ntmps167
 go_wp2_with fail
 refine(yFz _ x.zK _ (Rd.below R.out HB0.out) HS.out).mono ?_;rintro e w1 ⟨v1,rfl,ho1,hb1⟩;obtain⟨A1,c1,rfl,-,-,-⟩:=ho1.rd.open_;have HN1:=xN (Nv.ints ho1 hb1);have HK1:=xN (HK0.out.below hb1 HK0.out.lt);have HR1:=xN (HR0.out.below hb1 HR0.out.lt);have HB1:=xN (yQ HB0.out HB0.out.size hb1);have hsz:w.heap.size+2≤w1.heap.size:=by have:=hb1.size;simpa using this
 have HLO:=xN (show ∀ b ∈ (Value.slice A1 x.zK.length c1).ownBlock.toList,w.heap.size+2≤b from fun b hb=>by have:=HN1.out.lo b hb;simpa using this);clear ho1 hb1;have k1:=HK1.out.cell;have f1:=HK1.out.free;have k2:=HR1.out.cell;have f2:=HR1.out.free;have q1:w.heap.size<w1.heap.size:=by omega
 have q2:w.heap.size+1<w1.heap.size:=by omega
 have g1:w.heap.size ∉ (Value.slice A1 x.zK.length c1).ownBlock.toList:=fun h=>by have:=HLO.out _ h;omega
 have g2:w.heap.size+1 ∉ (Value.slice A1 x.zK.length c1).ownBlock.toList:=fun h=>by have:=HLO.out _ h;omega
 have G1:=xN g1;have G2:=xN g2;clear g1 g2;go_wp2;refine bodyPost_ret (v:= .agg #[.int .i64 x.zG,.int .i64 x.fA,.int .i64 x.fB,.slice A1 x.zK.length c1]) (by simp[results,Tryz.results167,go_sem,k1,f1,k2,f2]) rfl ?_;have hb:=HB1.out;refine⟨_,(Value.slice A1 x.zK.length c1).ownBlock.toList,rfl,?_,HN1.out.nodup,fun b hb=>by have:=HLO.out b hb;omega,(by repeat(first|with_reducible exact zR|with_reducible assumption|with_reducible refine Below.alloc ?_ (by first|exact zJ|(simp;done)|(simp;omega)) _|with_reducible refine Below.setCell ?_ zP _|with_reducible refine Below.drew ?_|with_reducible refine below_drewN ?_ _))⟩;have ho:T.ow w1 (T.ints 2 x.zK) (Value.slice A1 x.zK.length c1).ownBlock.toList [.slice A1 x.zK.length c1]:=HN1.out.ow;rw[show (Value.slice A1 x.zK.length c1).ownBlock.toList=(Value.slice A1 x.zK.length c1).ownBlock.toList++ [] by simp];refine xR.ow_mk (x:=x) ?_
 repeat(first|with_reducible exact ho|with_reducible refine T.ow_far ?_ G1.out _ _|with_reducible refine T.ow_far ?_ G2.out _ _)
end
end Go.Proofs.YtoibekfhepnedaaGreat
