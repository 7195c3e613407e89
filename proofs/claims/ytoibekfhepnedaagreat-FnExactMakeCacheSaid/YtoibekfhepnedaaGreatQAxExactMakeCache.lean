/- Contracts: how much nested data there is. Contracts on whole structs. Contracts: copies of the program. -/
import Derived.Test.YtoibekfhepnedaaGreatQAbExactMakeCache
import Derived.Test.YtoibekfhepnedaaGreatQAaExactMakeCache
import Derived.Test.YtoibekfhepnedaaGreatQAvExactMakeCache
import Derived.Test.YtoibekfhepnedaaGreatQAwExactMakeCache
import Derived.Test.YtoibekfhepnedaaGreatQAhExactMakeCache
import Derived.Test.YtoibekfhepnedaaGreatQAqExactMakeCache
set_option linter.unusedVariables false
set_option linter.unusedSimpArgs false
set_option maxHeartbeats 2000000
set_option maxRecDepth 20000
namespace Go.Proofs.YtoibekfhepnedaaGreat
section
open Go.RowKit
theorem c_szInt64S (v:Value) (xs:List Int) (n:Int) (w:World) (h0:0≤n) (h1:n≤1048576) (hr:T.rd w (T.ints 2 xs) [v]):
  Calls Tryz.prog 56 #[v,.int .i64 n] w fun e w'=> ∃ m:Int,e= .returned (.int .i64 m)∧ -1≤m∧m≤n∧(0≤m→xs.length≤1048576)∧Below w.heap.size w w':=by
 obtain⟨A,cap,rfl,hl,hc,_⟩:=(T.yT.1 hr).open_
 clear hr
 by_cases h4:n<xs.length
 ·go_enter Tryz.func56,Tryz.ntmps56
  go_wp2
  go_ret
  exact⟨-1,rfl,by omega,by omega,fun h=>by omega,Below.refl _ _⟩
 ·go_enter Tryz.func56,Tryz.ntmps56
  go_wp2
  go_ret
  exact⟨_,rfl,by omega,by omega,fun h=>by omega,Below.refl _ _⟩
theorem c_szInt64SS (v:Value) (xs:List (List Int)) (n:Int) (w:World) (h0:0≤n) (h1:n≤1048576) (hr:T.rd w (T.sl 26 1 (xs.map (T.ints 2))) [v]):
  Calls Tryz.prog 64 #[v,.int .i64 n] w fun e w'=> ∃ m:Int,e= .returned (.int .i64 m)∧ -1≤m∧m≤n∧(0≤m→smL (fun l:List Int=>l.length≤1048576) xs)∧Below w.heap.size w w':=by
 obtain⟨A,cap,rfl,hl,hc,hx⟩:=T.yO hr
 rw[List.length_map] at hl ⊢
 have HX:=hide hx;clear hx hr
 by_cases h4:n<xs.length
 ·go_enter Tryz.func64,Tryz.ntmps64
  go_wp2
  go_ret
  exact⟨-1,rfl,by omega,by omega,fun h=>by omega,Below.refl _ _⟩
 ·go_enter Tryz.func64,Tryz.ntmps64
  go_wp2
  go_loopw [1,5] (fun t iv wr=> ∃ (k:Nat) (m:Int),k≤xs.length∧iv= .int .i64 (k:Int)∧t= .int .i64 m∧0≤m∧m≤n - xs.length∧(∀ y ∈ xs.take k,(fun l:List Int=>l.length≤1048576) y)∧Below w.heap.size w wr) (fun _ iv _=>xs.length - (intOf iv).toNat)
  case atStart=>exact⟨0,_,Nat.zero_le _,rfl,rfl,by omega,by omega,by simp,Below.refl _ _⟩
  case round=>
   obtain⟨k,m,hk,rfl,rfl,hm0,hm1,ha,hb⟩:=hrel
   have HA:=hide ha;have HB:=hide hb;clear ha hb
   by_cases hlt:k<xs.length
   ·have hgk:=gE hlt
    obtain⟨b,off,cs,rfl,hbw,hcs,hcell⟩:=HX.out k (T.ints 2 xs[k]) (by rw[List.getElem?_map,hgk];rfl)
    obtain⟨v3,rfl⟩:=T.rd_one hcs
    have d0:=(HB.out.cell hbw).trans (hcell 0 v3 rfl)
    rw[Nat.mul_one,Nat.add_zero] at d0
    have R3:=hide (T.yF hcs HB.out)
    generalize xs[k]=x at *
    have HGK:=hide hgk;clear hgk hcs hcell
    go_wp2_with fail
    refine(c_szInt64S _ x m _ hm0 (by omega) R3.out).mono ?_;rintro e w3 ⟨q,rfl,hq0,hq1,hq2,hb3⟩
    have HB3:=hide (yJ HB.out HB.out.size hb3);clear hb3
    rcases Int.lt_or_le q 0 with hneg|hpos
    ·have hq:=hq2;clear hq2
     go_wp2
     go_ret
     exact⟨-1,rfl,by omega,by omega,fun h=>by omega,HB3.out⟩
    ·have HQ:=hide (hq2 hpos);clear hq2
     go_wp2
     go_roundw
     case rel=>exact⟨k+1,q,by omega,by go_num,rfl,by omega,by omega,all_take HA.out HGK.out HQ.out,HB3.out⟩
     case measure=>simp[intOf];omega
   ·obtain rfl:k=xs.length:=by omega
    go_wp2
    go_ret
    exact⟨m,rfl,by omega,by omega,fun _=>⟨by omega,all_full HA.out⟩,HB.out⟩
theorem c_szClipS (v:Value) (xs:List xL) (n:Int) (w:World) (h0:0≤n) (h1:n≤1048576) (hr:T.rd w (T.sl 39 5 (xs.map xL.t)) [v]):
  Calls Tryz.prog 199 #[v,.int .i64 n] w fun e w'=> ∃ m:Int,e= .returned (.int .i64 m)∧ -1≤m∧m≤n∧(0≤m→xs.length≤1048576)∧Below w.heap.size w w':=by
 obtain⟨A,cap,rfl,hl,hc,hx⟩:=T.yO hr
 rw[List.length_map] at hl ⊢
 clear hr hx
 by_cases h4:n<xs.length
 ·go_enter Tryz.func199,Tryz.ntmps199
  go_wp2
  go_ret
  exact⟨-1,rfl,by omega,by omega,fun h=>by omega,Below.refl _ _⟩
 ·go_enter Tryz.func199,Tryz.ntmps199
  go_wp2
  go_ret
  exact⟨_,rfl,by omega,by omega,fun h=>by omega,Below.refl _ _⟩
theorem c_szTrack (x:xI) (v0:Value) (n:Int) (w:World) (h0:0≤n) (h1:n≤1048576) (hg:x.good) (r0:T.rd w (T.sl 39 5 (x.zR.map xL.t)) [v0]):
  Calls Tryz.prog 134 #[.agg #[v0],.int .i64 n] w fun e w'=> ∃ m:Int,e= .returned (.int .i64 m)∧ -1≤m∧m≤n∧(0≤m→x.small)∧Below w.heap.size w w':=by
 have R0:=hide r0
 clear r0
 have HG:=hide hg;clear hg
 go_enter Tryz.func134,Tryz.ntmps134
 have HB0:=hide (show Below w.heap.size w (w.alloc (.cells #[v0] 185)) from(Below.refl _ _).alloc (Nat.le_refl _) _)
 have HK0:=hide (Bk.born w 185 #[v0])
 go_wp2_with fail
 refine(c_szClipS _ x.zR (n) _ (by omega) (by omega) (T.yF R0.out HB0.out)).mono ?_;rintro e w1 ⟨m1,rfl,a1,b1,s1,hb⟩
 have HK1:=hide (HK0.out.below hb (by simp));have HB1:=hide (yJ HB0.out (by simp) hb);clear hb
 have k1:=HK1.out.cell
 rcases Int.lt_or_le m1 0 with hn1|hp1
 ·go_wp2
  go_ret
  exact⟨-1,rfl,by omega,by omega,fun h=>by omega,HB1.out⟩
 have S1:=hide (s1 hp1);clear s1
 go_wp2
 go_ret
 exact⟨m1,rfl,by omega,by omega,fun _=>S1.out,HB1.out⟩
theorem c_szTrackS (v:Value) (xs:List xI) (n:Int) (w:World) (h0:0≤n) (h1:n≤1048576) (hg: ∀ y ∈ xs,xI.good y) (hr:T.rd w (T.sl 96 1 (xs.map xI.t)) [v]):
  Calls Tryz.prog 65 #[v,.int .i64 n] w fun e w'=> ∃ m:Int,e= .returned (.int .i64 m)∧ -1≤m∧m≤n∧(0≤m→smL xI.small xs)∧Below w.heap.size w w':=by
 obtain⟨A,cap,rfl,hl,hc,hx⟩:=T.yO hr
 rw[List.length_map] at hl ⊢
 have HX:=hide hx;clear hx hr
 have HG:=hide hg;clear hg
 by_cases h4:n<xs.length
 ·go_enter Tryz.func65,Tryz.ntmps65
  go_wp2
  go_ret
  exact⟨-1,rfl,by omega,by omega,fun h=>by omega,Below.refl _ _⟩
 ·go_enter Tryz.func65,Tryz.ntmps65
  go_wp2
  go_loopw [1,5] (fun t iv wr=> ∃ (k:Nat) (m:Int),k≤xs.length∧iv= .int .i64 (k:Int)∧t= .int .i64 m∧0≤m∧m≤n - xs.length∧(∀ y ∈ xs.take k,(xI.small) y)∧Below w.heap.size w wr) (fun _ iv _=>xs.length - (intOf iv).toNat)
  case atStart=>exact⟨0,_,Nat.zero_le _,rfl,rfl,by omega,by omega,by simp,Below.refl _ _⟩
  case round=>
   obtain⟨k,m,hk,rfl,rfl,hm0,hm1,ha,hb⟩:=hrel
   have HA:=hide ha;have HB:=hide hb;clear ha hb
   by_cases hlt:k<xs.length
   ·have hgk:=gE hlt
    obtain⟨b,off,cs,rfl,hbw,hcs,hcell⟩:=HX.out k (xI.t xs[k]) (by rw[List.getElem?_map,hgk];rfl)
    have hgd:=HG.out _ (List.getElem_mem hlt)
    generalize xs[k]=x at *
    have HGK:=hide hgk;clear hgk
    obtain⟨v0,rfl,hR0⟩:=xI.yO (show T.rds _ _ _ by simpa only[xI.t,T.rd] using hcs)
    have d0:=(HB.out.cell hbw).trans (hcell 0 (v0) rfl)
    rw[show off+(k * 1+0)=off+k by omega] at d0
    have R0:=hide (T.yF hR0 HB.out);clear hR0
    clear hcs hcell
    go_wp2_with fail
    refine(c_szTrack x v0 m _ hm0 (by omega) hgd R0.out).mono ?_;rintro e w3 ⟨q,rfl,hq0,hq1,hq2,hb3⟩
    have HB3:=hide (yJ HB.out HB.out.size hb3);clear hb3
    rcases Int.lt_or_le q 0 with hneg|hpos
    ·have hq:=hq2;clear hq2
     go_wp2
     go_ret
     exact⟨-1,rfl,by omega,by omega,fun h=>by omega,HB3.out⟩
    ·have HQ:=hide (hq2 hpos);clear hq2
     go_wp2
     go_roundw
     case rel=>exact⟨k+1,q,by omega,by go_num,rfl,by omega,by omega,all_take HA.out HGK.out HQ.out,HB3.out⟩
     case measure=>simp[intOf];omega
   ·obtain rfl:k=xs.length:=by omega
    go_wp2
    go_ret
    exact⟨m,rfl,by omega,by omega,fun _=>⟨by omega,all_full HA.out⟩,HB.out⟩
theorem c_szNode (x:xJ) (v3:Value) (n:Int) (w:World) (h0:0≤n) (h1:n≤1048576) (hg:x.good) (r3:T.rd w (T.ints 2 x.zH) [v3]):
  Calls Tryz.prog 246 #[.agg #[.int .i64 x.zD,.int .i64 x.fA,.int .i64 x.fB,v3],.int .i64 n] w fun e w'=> ∃ m:Int,e= .returned (.int .i64 m)∧ -1≤m∧m≤n∧(0≤m→x.small)∧Below w.heap.size w w':=by
 have R3:=hide r3
 clear r3
 have HG:=hide hg;clear hg
 go_enter Tryz.func246,Tryz.ntmps246
 have HB0:=hide (show Below w.heap.size w (w.alloc (.cells #[.int .i64 x.zD,.int .i64 x.fA,.int .i64 x.fB,v3] 279)) from(Below.refl _ _).alloc (Nat.le_refl _) _)
 have HK0:=hide (Bk.born w 279 #[.int .i64 x.zD,.int .i64 x.fA,.int .i64 x.fB,v3])
 go_wp2_with fail
 refine(c_szInt64S _ x.zH (n) _ (by omega) (by omega) (T.yF R3.out HB0.out)).mono ?_;rintro e w1 ⟨m1,rfl,a1,b1,s1,hb⟩
 have HK1:=hide (HK0.out.below hb (by simp));have HB1:=hide (yJ HB0.out (by simp) hb);clear hb
 have k1:=HK1.out.cell
 rcases Int.lt_or_le m1 0 with hn1|hp1
 ·go_wp2
  go_ret
  exact⟨-1,rfl,by omega,by omega,fun h=>by omega,HB1.out⟩
 have S1:=hide (s1 hp1);clear s1
 go_wp2
 go_ret
 exact⟨m1,rfl,by omega,by omega,fun _=>S1.out,HB1.out⟩
theorem c_szNodeS (v:Value) (xs:List xJ) (n:Int) (w:World) (h0:0≤n) (h1:n≤1048576) (hg: ∀ y ∈ xs,xJ.good y) (hr:T.rd w (T.sl 167 4 (xs.map xJ.t)) [v]):
  Calls Tryz.prog 200 #[v,.int .i64 n] w fun e w'=> ∃ m:Int,e= .returned (.int .i64 m)∧ -1≤m∧m≤n∧(0≤m→smL xJ.small xs)∧Below w.heap.size w w':=by
 obtain⟨A,cap,rfl,hl,hc,hx⟩:=T.yO hr
 rw[List.length_map] at hl ⊢
 have HX:=hide hx;clear hx hr
 have HG:=hide hg;clear hg
 by_cases h4:n<xs.length
 ·go_enter Tryz.func200,Tryz.ntmps200
  go_wp2
  go_ret
  exact⟨-1,rfl,by omega,by omega,fun h=>by omega,Below.refl _ _⟩
 ·go_enter Tryz.func200,Tryz.ntmps200
  go_wp2
  go_loopw [1,5] (fun t iv wr=> ∃ (k:Nat) (m:Int),k≤xs.length∧iv= .int .i64 (k:Int)∧t= .int .i64 m∧0≤m∧m≤n - xs.length∧(∀ y ∈ xs.take k,(xJ.small) y)∧Below w.heap.size w wr) (fun _ iv _=>xs.length - (intOf iv).toNat)
  case atStart=>exact⟨0,_,Nat.zero_le _,rfl,rfl,by omega,by omega,by simp,Below.refl _ _⟩
  case round=>
   obtain⟨k,m,hk,rfl,rfl,hm0,hm1,ha,hb⟩:=hrel
   have HA:=hide ha;have HB:=hide hb;clear ha hb
   by_cases hlt:k<xs.length
   ·have hgk:=gE hlt
    obtain⟨b,off,cs,rfl,hbw,hcs,hcell⟩:=HX.out k (xJ.t xs[k]) (by rw[List.getElem?_map,hgk];rfl)
    have hgd:=HG.out _ (List.getElem_mem hlt)
    generalize xs[k]=x at *
    have HGK:=hide hgk;clear hgk
    obtain⟨v3,rfl,hR3⟩:=xJ.yO (show T.rds _ _ _ by simpa only[xJ.t,T.rd] using hcs)
    have d0:=(HB.out.cell hbw).trans (hcell 0 (.int .i64 x.zD) rfl)
    have d1:=(HB.out.cell hbw).trans (hcell 1 (.int .i64 x.fA) rfl)
    have d2:=(HB.out.cell hbw).trans (hcell 2 (.int .i64 x.fB) rfl)
    have d3:=(HB.out.cell hbw).trans (hcell 3 (v3) rfl)
    rw[show off+(k * 4+0)=off+k * 4 by omega] at d0
    rw[show off+(k * 4+1)=off+k * 4+1 by omega] at d1
    rw[show off+(k * 4+2)=off+k * 4+2 by omega] at d2
    rw[show off+(k * 4+3)=off+k * 4+3 by omega] at d3
    have R3:=hide (T.yF hR3 HB.out);clear hR3
    clear hcs hcell
    go_wp2_with fail
    refine(c_szNode x v3 m _ hm0 (by omega) hgd R3.out).mono ?_;rintro e w3 ⟨q,rfl,hq0,hq1,hq2,hb3⟩
    have HB3:=hide (yJ HB.out HB.out.size hb3);clear hb3
    rcases Int.lt_or_le q 0 with hneg|hpos
    ·have hq:=hq2;clear hq2
     go_wp2
     go_ret
     exact⟨-1,rfl,by omega,by omega,fun h=>by omega,HB3.out⟩
    ·have HQ:=hide (hq2 hpos);clear hq2
     go_wp2
     go_roundw
     case rel=>exact⟨k+1,q,by omega,by go_num,rfl,by omega,by omega,all_take HA.out HGK.out HQ.out,HB3.out⟩
     case measure=>simp[intOf];omega
   ·obtain rfl:k=xs.length:=by omega
    go_wp2
    go_ret
    exact⟨m,rfl,by omega,by omega,fun _=>⟨by omega,all_full HA.out⟩,HB.out⟩
theorem c_szPatch (x:xG) (v1:Value) (v2:Value) (v3:Value) (n:Int) (w:World) (h0:0≤n) (h1:n≤1048576) (hg:x.good) (r1:T.rd w (T.sl 26 1 (x.zN.map (T.ints 2))) [v1]) (r2:T.rd w (T.sl 167 4 (x.zB.map xJ.t)) [v2]) (r3:T.rd w (T.ints 2 x.zK) [v3]):
  Calls Tryz.prog 135 #[.agg #[.int .i64 x.zJ,v1,v2,v3],.int .i64 n] w fun e w'=> ∃ m:Int,e= .returned (.int .i64 m)∧ -1≤m∧m≤n∧(0≤m→x.small)∧Below w.heap.size w w':=by
 have R1:=hide r1
 have R2:=hide r2
 have R3:=hide r3
 clear r1 r2 r3
 have HG:=hide hg;clear hg
 go_enter Tryz.func135,Tryz.ntmps135
 have HB0:=hide (show Below w.heap.size w (w.alloc (.cells #[.int .i64 x.zJ,v1,v2,v3] 189)) from(Below.refl _ _).alloc (Nat.le_refl _) _)
 have HK0:=hide (Bk.born w 189 #[.int .i64 x.zJ,v1,v2,v3])
 go_wp2_with fail
 refine(c_szInt64SS _ x.zN (n) _ (by omega) (by omega) (T.yF R1.out HB0.out)).mono ?_;rintro e w1 ⟨m1,rfl,a1,b1,s1,hb⟩
 have HK1:=hide (HK0.out.below hb (by simp));have HB1:=hide (yJ HB0.out (by simp) hb);clear hb
 have k1:=HK1.out.cell
 rcases Int.lt_or_le m1 0 with hn1|hp1
 ·go_wp2
  go_ret
  exact⟨-1,rfl,by omega,by omega,fun h=>by omega,HB1.out⟩
 have S1:=hide (s1 hp1);clear s1
 go_wp2_with fail
 refine(c_szNodeS _ x.zB (m1) _ (by omega) (by omega) (HG.out.2.2.1) (T.yF R2.out HB1.out)).mono ?_;rintro e w2 ⟨m2,rfl,a2,b2,s2,hb⟩
 have HK2:=hide (HK1.out.below hb HK1.out.lt);have HB2:=hide (yJ HB1.out HB1.out.size hb);clear hb
 have k2:=HK2.out.cell
 rcases Int.lt_or_le m2 0 with hn2|hp2
 ·go_wp2
  go_ret
  exact⟨-1,rfl,by omega,by omega,fun h=>by omega,HB2.out⟩
 have S2:=hide (s2 hp2);clear s2
 go_wp2_with fail
 refine(c_szInt64S _ x.zK (m2) _ (by omega) (by omega) (T.yF R3.out HB2.out)).mono ?_;rintro e w3 ⟨m3,rfl,a3,b3,s3,hb⟩
 have HK3:=hide (HK2.out.below hb HK2.out.lt);have HB3:=hide (yJ HB2.out HB2.out.size hb);clear hb
 have k3:=HK3.out.cell
 rcases Int.lt_or_le m3 0 with hn3|hp3
 ·go_wp2
  go_ret
  exact⟨-1,rfl,by omega,by omega,fun h=>by omega,HB3.out⟩
 have S3:=hide (s3 hp3);clear s3
 go_wp2
 go_ret
 exact⟨m3,rfl,by omega,by omega,fun _=>⟨S1.out,S2.out,S3.out⟩,HB3.out⟩
theorem c_szPatchS (v:Value) (xs:List xG) (n:Int) (w:World) (h0:0≤n) (h1:n≤1048576) (hg: ∀ y ∈ xs,xG.good y) (hr:T.rd w (T.sl 108 4 (xs.map xG.t)) [v]):
  Calls Tryz.prog 66 #[v,.int .i64 n] w fun e w'=> ∃ m:Int,e= .returned (.int .i64 m)∧ -1≤m∧m≤n∧(0≤m→smL xG.small xs)∧Below w.heap.size w w':=by
 obtain⟨A,cap,rfl,hl,hc,hx⟩:=T.yO hr
 rw[List.length_map] at hl ⊢
 have HX:=hide hx;clear hx hr
 have HG:=hide hg;clear hg
 by_cases h4:n<xs.length
 ·go_enter Tryz.func66,Tryz.ntmps66
  go_wp2
  go_ret
  exact⟨-1,rfl,by omega,by omega,fun h=>by omega,Below.refl _ _⟩
 ·go_enter Tryz.func66,Tryz.ntmps66
  go_wp2
  go_loopw [1,5] (fun t iv wr=> ∃ (k:Nat) (m:Int),k≤xs.length∧iv= .int .i64 (k:Int)∧t= .int .i64 m∧0≤m∧m≤n - xs.length∧(∀ y ∈ xs.take k,(xG.small) y)∧Below w.heap.size w wr) (fun _ iv _=>xs.length - (intOf iv).toNat)
  case atStart=>exact⟨0,_,Nat.zero_le _,rfl,rfl,by omega,by omega,by simp,Below.refl _ _⟩
  case round=>
   obtain⟨k,m,hk,rfl,rfl,hm0,hm1,ha,hb⟩:=hrel
   have HA:=hide ha;have HB:=hide hb;clear ha hb
   by_cases hlt:k<xs.length
   ·have hgk:=gE hlt
    obtain⟨b,off,cs,rfl,hbw,hcs,hcell⟩:=HX.out k (xG.t xs[k]) (by rw[List.getElem?_map,hgk];rfl)
    have hgd:=HG.out _ (List.getElem_mem hlt)
    generalize xs[k]=x at *
    have HGK:=hide hgk;clear hgk
    obtain⟨v1,v2,v3,rfl,hR1,hR2,hR3⟩:=xG.yO (show T.rds _ _ _ by simpa only[xG.t,T.rd] using hcs)
    have d0:=(HB.out.cell hbw).trans (hcell 0 (.int .i64 x.zJ) rfl)
    have d1:=(HB.out.cell hbw).trans (hcell 1 (v1) rfl)
    have d2:=(HB.out.cell hbw).trans (hcell 2 (v2) rfl)
    have d3:=(HB.out.cell hbw).trans (hcell 3 (v3) rfl)
    rw[show off+(k * 4+0)=off+k * 4 by omega] at d0
    rw[show off+(k * 4+1)=off+k * 4+1 by omega] at d1
    rw[show off+(k * 4+2)=off+k * 4+2 by omega] at d2
    rw[show off+(k * 4+3)=off+k * 4+3 by omega] at d3
    have R1:=hide (T.yF hR1 HB.out);clear hR1
    have R2:=hide (T.yF hR2 HB.out);clear hR2
    have R3:=hide (T.yF hR3 HB.out);clear hR3
    clear hcs hcell
    go_wp2_with fail
    refine(c_szPatch x v1 v2 v3 m _ hm0 (by omega) hgd R1.out R2.out R3.out).mono ?_;rintro e w3 ⟨q,rfl,hq0,hq1,hq2,hb3⟩
    have HB3:=hide (yJ HB.out HB.out.size hb3);clear hb3
    rcases Int.lt_or_le q 0 with hneg|hpos
    ·have hq:=hq2;clear hq2
     go_wp2
     go_ret
     exact⟨-1,rfl,by omega,by omega,fun h=>by omega,HB3.out⟩
    ·have HQ:=hide (hq2 hpos);clear hq2
     go_wp2
     go_roundw
     case rel=>exact⟨k+1,q,by omega,by go_num,rfl,by omega,by omega,all_take HA.out HGK.out HQ.out,HB3.out⟩
     case measure=>simp[intOf];omega
   ·obtain rfl:k=xs.length:=by omega
    go_wp2
    go_ret
    exact⟨m,rfl,by omega,by omega,fun _=>⟨by omega,all_full HA.out⟩,HB.out⟩
theorem c_szSendS (v:Value) (xs:List xM) (n:Int) (w:World) (h0:0≤n) (h1:n≤1048576) (hr:T.rd w (T.sl 98 2 (xs.map xM.t)) [v]):
  Calls Tryz.prog 247 #[v,.int .i64 n] w fun e w'=> ∃ m:Int,e= .returned (.int .i64 m)∧ -1≤m∧m≤n∧(0≤m→xs.length≤1048576)∧Below w.heap.size w w':=by
 obtain⟨A,cap,rfl,hl,hc,hx⟩:=T.yO hr
 rw[List.length_map] at hl ⊢
 clear hr hx
 by_cases h4:n<xs.length
 ·go_enter Tryz.func247,Tryz.ntmps247
  go_wp2
  go_ret
  exact⟨-1,rfl,by omega,by omega,fun h=>by omega,Below.refl _ _⟩
 ·go_enter Tryz.func247,Tryz.ntmps247
  go_wp2
  go_ret
  exact⟨_,rfl,by omega,by omega,fun h=>by omega,Below.refl _ _⟩
theorem c_szStrip (x:xH) (v2:Value) (n:Int) (w:World) (h0:0≤n) (h1:n≤1048576) (hg:x.good) (r2:T.rd w (T.sl 98 2 (x.zM.map xM.t)) [v2]):
  Calls Tryz.prog 201 #[.agg #[.string x.zV,.int .i64 x.zI,v2],.int .i64 n] w fun e w'=> ∃ m:Int,e= .returned (.int .i64 m)∧ -1≤m∧m≤n∧(0≤m→x.small)∧Below w.heap.size w w':=by
 have R2:=hide r2
 clear r2
 have hgs0:x.zV.size≤9223372036854775807:=hg.1
 have HG:=hide hg;clear hg
 go_enter Tryz.func201,Tryz.ntmps201
 have HB0:=hide (show Below w.heap.size w (w.alloc (.cells #[.string x.zV,.int .i64 x.zI,v2] 243)) from(Below.refl _ _).alloc (Nat.le_refl _) _)
 have HK0:=hide (Bk.born w 243 #[.string x.zV,.int .i64 x.zI,v2])
 by_cases hs0:n<x.zV.size
 ·go_wp2
  go_ret
  exact⟨-1,rfl,by omega,by omega,fun h=>by omega,(by first|exact HB0.out|exact undrew HB0.out|exact Below.drew HB0.out|exact Below.drew (undrew HB0.out)|exact wM HB0.out|exact below_drewN HB0.out _)⟩
 go_wp2_with fail
 refine(c_szSendS _ x.zM (n - x.zV.size) _ (by omega) (by omega) (T.yF R2.out HB0.out)).mono ?_;rintro e w1 ⟨m1,rfl,a1,b1,s1,hb⟩
 have HK1:=hide (HK0.out.below hb (by simp));have HB1:=hide (yJ HB0.out (by simp) hb);clear hb
 have k1:=HK1.out.cell
 rcases Int.lt_or_le m1 0 with hn1|hp1
 ·go_wp2
  go_ret
  exact⟨-1,rfl,by omega,by omega,fun h=>by omega,HB1.out⟩
 have S1:=hide (s1 hp1);clear s1
 go_wp2
 go_ret
 exact⟨m1,rfl,by omega,by omega,fun _=>⟨by omega,S1.out⟩,HB1.out⟩
theorem c_szStripS (v:Value) (xs:List xH) (n:Int) (w:World) (h0:0≤n) (h1:n≤1048576) (hg: ∀ y ∈ xs,xH.good y) (hr:T.rd w (T.sl 101 3 (xs.map xH.t)) [v]):
  Calls Tryz.prog 136 #[v,.int .i64 n] w fun e w'=> ∃ m:Int,e= .returned (.int .i64 m)∧ -1≤m∧m≤n∧(0≤m→smL xH.small xs)∧Below w.heap.size w w':=by
 obtain⟨A,cap,rfl,hl,hc,hx⟩:=T.yO hr
 rw[List.length_map] at hl ⊢
 have HX:=hide hx;clear hx hr
 have HG:=hide hg;clear hg
 by_cases h4:n<xs.length
 ·go_enter Tryz.func136,Tryz.ntmps136
  go_wp2
  go_ret
  exact⟨-1,rfl,by omega,by omega,fun h=>by omega,Below.refl _ _⟩
 ·go_enter Tryz.func136,Tryz.ntmps136
  go_wp2
  go_loopw [1,5] (fun t iv wr=> ∃ (k:Nat) (m:Int),k≤xs.length∧iv= .int .i64 (k:Int)∧t= .int .i64 m∧0≤m∧m≤n - xs.length∧(∀ y ∈ xs.take k,(xH.small) y)∧Below w.heap.size w wr) (fun _ iv _=>xs.length - (intOf iv).toNat)
  case atStart=>exact⟨0,_,Nat.zero_le _,rfl,rfl,by omega,by omega,by simp,Below.refl _ _⟩
  case round=>
   obtain⟨k,m,hk,rfl,rfl,hm0,hm1,ha,hb⟩:=hrel
   have HA:=hide ha;have HB:=hide hb;clear ha hb
   by_cases hlt:k<xs.length
   ·have hgk:=gE hlt
    obtain⟨b,off,cs,rfl,hbw,hcs,hcell⟩:=HX.out k (xH.t xs[k]) (by rw[List.getElem?_map,hgk];rfl)
    have hgd:=HG.out _ (List.getElem_mem hlt)
    generalize xs[k]=x at *
    have HGK:=hide hgk;clear hgk
    obtain⟨v2,rfl,hR2⟩:=xH.yO (show T.rds _ _ _ by simpa only[xH.t,T.rd] using hcs)
    have d0:=(HB.out.cell hbw).trans (hcell 0 (.string x.zV) rfl)
    have d1:=(HB.out.cell hbw).trans (hcell 1 (.int .i64 x.zI) rfl)
    have d2:=(HB.out.cell hbw).trans (hcell 2 (v2) rfl)
    rw[show off+(k * 3+0)=off+k * 3 by omega] at d0
    rw[show off+(k * 3+1)=off+k * 3+1 by omega] at d1
    rw[show off+(k * 3+2)=off+k * 3+2 by omega] at d2
    have R2:=hide (T.yF hR2 HB.out);clear hR2
    clear hcs hcell
    go_wp2_with fail
    refine(c_szStrip x v2 m _ hm0 (by omega) hgd R2.out).mono ?_;rintro e w3 ⟨q,rfl,hq0,hq1,hq2,hb3⟩
    have HB3:=hide (yJ HB.out HB.out.size hb3);clear hb3
    rcases Int.lt_or_le q 0 with hneg|hpos
    ·have hq:=hq2;clear hq2
     go_wp2
     go_ret
     exact⟨-1,rfl,by omega,by omega,fun h=>by omega,HB3.out⟩
    ·have HQ:=hide (hq2 hpos);clear hq2
     go_wp2
     go_roundw
     case rel=>exact⟨k+1,q,by omega,by go_num,rfl,by omega,by omega,all_take HA.out HGK.out HQ.out,HB3.out⟩
     case measure=>simp[intOf];omega
   ·obtain rfl:k=xs.length:=by omega
    go_wp2
    go_ret
    exact⟨m,rfl,by omega,by omega,fun _=>⟨by omega,all_full HA.out⟩,HB.out⟩
theorem c_szMixer (x:xU) (v0:Value) (n:Int) (w:World) (h0:0≤n) (h1:n≤1048576) (hg:x.good) (r0:T.rd w (T.sl 101 3 (x.zC.map xH.t)) [v0]):
  Calls Tryz.prog 67 #[.agg #[v0],.int .i64 n] w fun e w'=> ∃ m:Int,e= .returned (.int .i64 m)∧ -1≤m∧m≤n∧(0≤m→x.small)∧Below w.heap.size w w':=by
 have R0:=hide r0
 clear r0
 have HG:=hide hg;clear hg
 go_enter Tryz.func67,Tryz.ntmps67
 have HB0:=hide (show Below w.heap.size w (w.alloc (.cells #[v0] 57)) from(Below.refl _ _).alloc (Nat.le_refl _) _)
 have HK0:=hide (Bk.born w 57 #[v0])
 go_wp2_with fail
 refine(c_szStripS _ x.zC (n) _ (by omega) (by omega) (HG.out) (T.yF R0.out HB0.out)).mono ?_;rintro e w1 ⟨m1,rfl,a1,b1,s1,hb⟩
 have HK1:=hide (HK0.out.below hb (by simp));have HB1:=hide (yJ HB0.out (by simp) hb);clear hb
 have k1:=HK1.out.cell
 rcases Int.lt_or_le m1 0 with hn1|hp1
 ·go_wp2
  go_ret
  exact⟨-1,rfl,by omega,by omega,fun h=>by omega,HB1.out⟩
 have S1:=hide (s1 hp1);clear s1
 go_wp2
 go_ret
 exact⟨m1,rfl,by omega,by omega,fun _=>S1.out,HB1.out⟩
theorem c_szSession (x:xK) (v1:Value) (v2:Value) (v3:Value) (v4:Value) (v5:Value) (n:Int) (w:World) (h0:0≤n) (h1:n≤1048576) (hg:x.good) (r1:T.rd w (T.sl 26 1 (x.zL.map (T.ints 2))) [v1]) (r2:T.rd w (T.sl 96 1 (x.zO.map xI.t)) [v2]) (r3:T.rd w (T.ints 2 x.zQ) [v3]) (r4:T.rd w (T.sl 108 4 (x.zP.map xG.t)) [v4]) (r5:T.rd w (T.sl 101 3 (x.zG.zC.map xH.t)) [v5]):
  Calls Tryz.prog 24 #[.agg #[.int .i64 x.zF,v1,v2,v3,v4,v5],.int .i64 n] w fun e w'=> ∃ m:Int,e= .returned (.int .i64 m)∧ -1≤m∧m≤n∧(0≤m→x.small)∧Below w.heap.size w w':=by
 have R1:=hide r1
 have R2:=hide r2
 have R3:=hide r3
 have R4:=hide r4
 have R5:=hide r5
 clear r1 r2 r3 r4 r5
 have HG:=hide hg;clear hg
 go_enter Tryz.func24,Tryz.ntmps24
 have HB0:=hide (show Below w.heap.size w (w.alloc (.cells #[.int .i64 x.zF,v1,v2,v3,v4,v5] 59)) from(Below.refl _ _).alloc (Nat.le_refl _) _)
 have HK0:=hide (Bk.born w 59 #[.int .i64 x.zF,v1,v2,v3,v4,v5])
 go_wp2_with fail
 refine(c_szInt64SS _ x.zL (n) _ (by omega) (by omega) (T.yF R1.out HB0.out)).mono ?_;rintro e w1 ⟨m1,rfl,a1,b1,s1,hb⟩
 have HK1:=hide (HK0.out.below hb (by simp));have HB1:=hide (yJ HB0.out (by simp) hb);clear hb
 have k1:=HK1.out.cell
 rcases Int.lt_or_le m1 0 with hn1|hp1
 ·go_wp2
  go_ret
  exact⟨-1,rfl,by omega,by omega,fun h=>by omega,HB1.out⟩
 have S1:=hide (s1 hp1);clear s1
 go_wp2_with fail
 refine(c_szTrackS _ x.zO (m1) _ (by omega) (by omega) (HG.out.2.2.1) (T.yF R2.out HB1.out)).mono ?_;rintro e w2 ⟨m2,rfl,a2,b2,s2,hb⟩
 have HK2:=hide (HK1.out.below hb HK1.out.lt);have HB2:=hide (yJ HB1.out HB1.out.size hb);clear hb
 have k2:=HK2.out.cell
 rcases Int.lt_or_le m2 0 with hn2|hp2
 ·go_wp2
  go_ret
  exact⟨-1,rfl,by omega,by omega,fun h=>by omega,HB2.out⟩
 have S2:=hide (s2 hp2);clear s2
 go_wp2_with fail
 refine(c_szInt64S _ x.zQ (m2) _ (by omega) (by omega) (T.yF R3.out HB2.out)).mono ?_;rintro e w3 ⟨m3,rfl,a3,b3,s3,hb⟩
 have HK3:=hide (HK2.out.below hb HK2.out.lt);have HB3:=hide (yJ HB2.out HB2.out.size hb);clear hb
 have k3:=HK3.out.cell
 rcases Int.lt_or_le m3 0 with hn3|hp3
 ·go_wp2
  go_ret
  exact⟨-1,rfl,by omega,by omega,fun h=>by omega,HB3.out⟩
 have S3:=hide (s3 hp3);clear s3
 go_wp2_with fail
 refine(c_szPatchS _ x.zP (m3) _ (by omega) (by omega) (HG.out.2.2.2.2.1) (T.yF R4.out HB3.out)).mono ?_;rintro e w4 ⟨m4,rfl,a4,b4,s4,hb⟩
 have HK4:=hide (HK3.out.below hb HK3.out.lt);have HB4:=hide (yJ HB3.out HB3.out.size hb);clear hb
 have k4:=HK4.out.cell
 rcases Int.lt_or_le m4 0 with hn4|hp4
 ·go_wp2
  go_ret
  exact⟨-1,rfl,by omega,by omega,fun h=>by omega,HB4.out⟩
 have S4:=hide (s4 hp4);clear s4
 go_wp2_with fail
 refine(c_szMixer x.zG v5 (m4) _ (by omega) (by omega) (HG.out.2.2.2.2.2) (T.yF R5.out HB4.out)).mono ?_;rintro e w5 ⟨m5,rfl,a5,b5,s5,hb⟩
 have HK5:=hide (HK4.out.below hb HK4.out.lt);have HB5:=hide (yJ HB4.out HB4.out.size hb);clear hb
 have k5:=HK5.out.cell
 rcases Int.lt_or_le m5 0 with hn5|hp5
 ·go_wp2
  go_ret
  exact⟨-1,rfl,by omega,by omega,fun h=>by omega,HB5.out⟩
 have S5:=hide (s5 hp5);clear s5
 go_wp2
 go_ret
 exact⟨m5,rfl,by omega,by omega,fun _=>⟨S1.out,S2.out,S3.out,S4.out,S5.out⟩,HB5.out⟩
end
section
open Go.RowKit
theorem T.rds_below {w w':World} {x:List T} {cs:List Value} (h:T.rds w x cs) (hb:Below w.heap.size w w'):T.rds w' x cs:=T.rds_keep hb.size hb.block x cs h
theorem b_toSession (x:xK) (cs:List Value) (w:World) (hs:x.small) (h:T.rds w x.fs cs):Calls Tryz.prog 26 #[.agg cs.toArray] w fun e w'=> ∃ ds,e= .returned (.agg ds.toArray)∧T.rds w' x.fs ds∧Below w.heap.size w w':=by
 obtain⟨v1,v2,v3,v4,v5,rfl,h1,h2,h3,h4,h5⟩:=xK.yO h
 refine(c_toSession x _ _ _ _ _ w hs h1 h2 h3 h4 h5).mono ?_
 rintro e w' ⟨u1,F1,u2,F2,u3,F3,u4,F4,u5,F5,rfl,o1,o2,o3,o4,o5,sg,hb⟩
 exact⟨_,rfl,xK.rd_mk (T.ow_rd _ _ _ o1) (T.ow_rd _ _ _ o2) (T.ow_rd _ _ _ o3) (T.ow_rd _ _ _ o4) (T.ow_rd _ _ _ o5),hb⟩
theorem b_eqSession (x:xK) (cs ds:List Value) (w:World) (h:T.rds w x.fs cs) (g:T.rds w x.fs ds):Calls Tryz.prog 28 #[.agg cs.toArray,.agg ds.toArray] w fun e w'=>e= .returned (.bool true)∧Below w.heap.size w w':=by
 obtain⟨v1,v2,v3,v4,v5,rfl,h1,h2,h3,h4,h5⟩:=xK.yO h
 obtain⟨u1,u2,u3,u4,u5,rfl,k1,k2,k3,k4,k5⟩:=xK.yO g
 exact c_eqSession x _ _ _ _ _ _ _ _ _ _ w h1 h2 h3 h4 h5 k1 k2 k3 k4 k5
theorem b_eqCache (x:wS) (cs ds:List Value) (w:World) (h:T.rds w x.fs cs) (g:T.rds w x.fs ds):Calls Tryz.prog 23 #[.agg cs.toArray,.agg ds.toArray] w fun e w'=>e= .returned (.bool true)∧Below w.heap.size w w':=by
 obtain⟨v1,v2,v3,v4,v5,v6,v7,rfl,h1,h2,h3,h4,h5,h6,h7⟩:=wS.yO h
 obtain⟨u1,u2,u3,u4,u5,u6,u7,rfl,k1,k2,k3,k4,k5,k6,k7⟩:=wS.yO g
 exact c_eqCache x _ _ _ _ _ _ _ _ _ _ _ _ _ _ w h1 h2 h3 h4 h5 h6 h7 k1 k2 k3 k4 k5 k6 k7
end
section
open Go.RowKit
theorem c_clones (v:Value) (xs:List (List Int)) (w:World) (hs:smL (fun l:List Int=>l.length≤1048576) xs) (hr:T.rd w (T.sl 26 1 (xs.map (T.ints 2))) [v]):
  Calls Tryz.prog 111 #[v] w fun e w'=> ∃ v' F,e= .returned v'∧Own w.heap.size w' (T.sl 26 1 (xs.map (T.ints 2))) F v'∧Below w.heap.size w w':=by
 obtain⟨A,cap,rfl,hl,hc,hx⟩:=T.yN hr
 have HX:=hide hx;have HS:=hide hs;clear hx hr hs
 have HL:=hide HS.out.1
 have HO0:=hide (Own.born (World.ownsRow_made w #[] 0 (Nat.le_refl _) (by decide) rfl:(w.alloc (.cells #[] 26)).ownsRow w.heap.size 26 1 (.slice (some ⟨w.heap.size,0,none⟩) 0 0) 0 []))
 have HB0:=hide (show Below w.heap.size w (w.alloc (.cells #[] 26)) from(Below.refl _ _).alloc (Nat.le_refl _) _)
 go_enter Tryz.func111,Tryz.ntmps111
 go_wp2
 go_loopw [3,9] (fun r i wr=> ∃ k F,k≤xs.length∧i= .int .i64 (k:Int)∧Own w.heap.size wr (T.sl 26 1 ((xs.take k).map (T.ints 2))) F r∧Below w.heap.size w wr) (fun _ i _=>xs.length - (intOf i).toNat)
 case atStart=>exact⟨0,_,Nat.zero_le _,rfl,by rw[List.take_zero];exact HO0.out,HB0.out⟩
 case round=>
  obtain⟨k,F,hk,rfl,ho,hb⟩:=hrel
  have HO:=hide ho;have HB:=hide hb;clear ho hb
  by_cases hlt:k<xs.length
  ·have hgk:=gE hlt
   obtain⟨b,off,cs,rfl,hb,hcs,hcell⟩:=HX.out k xs[k] hgk
   have hll:=HS.out.2 xs[k] (List.getElem_mem hlt)
   generalize xs[k]=l at *
   have HG:=hide hgk;clear hgk
   obtain⟨v3,rfl⟩:=T.rd_one hcs
   have d0:=(HB.out.cell hb).trans (hcell 0 v3 rfl)
   rw[Nat.mul_one,Nat.add_zero] at d0
   have hb2:b<wr.heap.size:=lL hb HB.out.size
   have R:=hide (T.yT.1 hcs);clear hcs hcell
   obtain⟨A3,c3,rfl,l3,m3,x3⟩:=R.out.open_
   clear x3
   have HLL:=hide hll;clear hll
   go_wp2_with fail
   refine(c_clone _ l _ (Rd.below R.out HB.out) HLL.out).mono ?_;rintro e w1 ⟨v1,rfl,ho1,hb1⟩
   obtain⟨A1,c1,rfl,-,-,-⟩:=ho1.rd.open_
   have HN1:=hide (Nv.ints ho1 hb1)
   have HO1:=hide (HO.out.all hb1);have HB1:=hide (yJ HB.out HB.out.size hb1)
   have hsz:wr.heap.size≤w1.heap.size:=hb1.size
   clear ho1 hb1
   go_wp2_with (at_builtin;refine app1_T rfl _ _ _ rfl w.heap.size 26 _ 1 24 Tryz.underlying24 wU rfl (by omega) rfl HO1.out HN1.out.ow HN1.out.nodup (fun b hb=>Nat.le_trans HB.out.size (HN1.out.lo b hb)) (fun b hb hb2=>by have h1:=HO.out.lt b hb;have h2:=HN1.out.lo b hb2;omega) rfl rfl (by rw[List.length_map,List.length_take];have:=HL.out;omega) (by rw[List.length_map,List.length_take];have:=HL.out;omega) HB1.out.size ?_;intro v8 w8 F8 ho8 hg8 hv8;have HO8:=hide ho8;have HB8:=hide (HO1.out.below HB1.out HB1.out.size hg8);clear ho8 hg8 hv8)
   go_roundw
   case rel=>exact⟨k+1,F8,by omega,by go_num,by rw[xQ HG.out,List.map_append];exact HO8.out,HB8.out⟩
   case measure=>simp[intOf];omega
  ·obtain rfl:k=xs.length:=by omega
   go_wp2
   go_ret
   exact⟨_,F,rfl,by have:=HO.out;rwa [List.take_length] at this,HB.out⟩
theorem c_copyNode (x:xJ) (cs:List Value) (w:World) (hs:x.small) (h:T.rds w x.fs cs):Calls Tryz.prog 167 #[.agg cs.toArray] w fun e w'=> ∃ v F,e= .returned (.agg #[.int .i64 x.zD,.int .i64 x.fA,.int .i64 x.fB,v])∧Nw w w' x.fs F [.int .i64 x.zD,.int .i64 x.fA,.int .i64 x.fB,v]:=by
 obtain⟨v3,rfl,h3⟩:=xJ.yO h
 have h3i:=T.yT.1 h3;obtain⟨A,cap,rfl,hl,hm,hx⟩:=h3i.open_
 have R:=hide h3i;clear hx h3 h3i h
 have HS:=hide (show x.zH.length≤1048576 from hs);clear hs
 have HB0:=hide (show Below w.heap.size w ((w.alloc (.cells #[.int .i64 x.zD,.int .i64 x.fA,.int .i64 x.fB,.slice A x.zH.length cap] 167)).alloc (.cells #[.int .i64 0,.int .i64 0,.int .i64 0,.slice none 0 0] 167)) from((Below.refl _ _).alloc (Nat.le_refl _) _).alloc (by simp) _)
 have HK0:=hide ((Bk.born w 167 #[.int .i64 x.zD,.int .i64 x.fA,.int .i64 x.fB,.slice A x.zH.length cap]).alloc (.cells #[.int .i64 0,.int .i64 0,.int .i64 0,.slice none 0 0] 167))
 have HR0:=hide (Bk.born1' w (.cells #[.int .i64 x.zD,.int .i64 x.fA,.int .i64 x.fB,.slice A x.zH.length cap] 167) 167 #[.int .i64 0,.int .i64 0,.int .i64 0,.slice none 0 0])
 go_enter Tryz.func167,Tryz.ntmps167
 go_wp2_with fail
 refine(c_clone _ x.zH _ (Rd.below R.out HB0.out) HS.out).mono ?_;rintro e w1 ⟨v1,rfl,ho1,hb1⟩
 obtain⟨A1,c1,rfl,-,-,-⟩:=ho1.rd.open_
 have HN1:=hide (Nv.ints ho1 hb1)
 have HK1:=hide (HK0.out.below hb1 HK0.out.lt);have HR1:=hide (HR0.out.below hb1 HR0.out.lt)
 have HB1:=hide (yJ HB0.out HB0.out.size hb1)
 have hsz:w.heap.size+2≤w1.heap.size:=by have:=hb1.size;simpa using this
 have HLO:=hide (show ∀ b ∈ (Value.slice A1 x.zH.length c1).ownBlock.toList,w.heap.size+2≤b from fun b hb=>by have:=HN1.out.lo b hb;simpa using this)
 clear ho1 hb1
 have k1:=HK1.out.cell;have f1:=HK1.out.free;have k2:=HR1.out.cell;have f2:=HR1.out.free
 have q1:w.heap.size<w1.heap.size:=by omega
 have q2:w.heap.size+1<w1.heap.size:=by omega
 have g1:w.heap.size ∉ (Value.slice A1 x.zH.length c1).ownBlock.toList:=fun h=>by have:=HLO.out _ h;omega
 have g2:w.heap.size+1 ∉ (Value.slice A1 x.zH.length c1).ownBlock.toList:=fun h=>by have:=HLO.out _ h;omega
 have G1:=hide g1;have G2:=hide g2;clear g1 g2
 go_wp2
 refine bodyPost_ret (v:= .agg #[.int .i64 x.zD,.int .i64 x.fA,.int .i64 x.fB,.slice A1 x.zH.length c1]) (by simp[results,Tryz.results167,go_sem,k1,f1,k2,f2]) rfl ?_
 have hb:=HB1.out
 refine⟨_,(Value.slice A1 x.zH.length c1).ownBlock.toList,rfl,?_,HN1.out.nodup,fun b hb=>by have:=HLO.out b hb;omega,(by repeat(first|with_reducible exact Below.refl _ _|with_reducible assumption|with_reducible refine Below.alloc ?_ (by first|exact Nat.le_refl _|(simp;done)|(simp;omega)) _|with_reducible refine Below.setCell ?_ sp _|with_reducible refine Below.drew ?_|with_reducible refine below_drewN ?_ _))⟩
 have ho:T.ow w1 (T.ints 2 x.zH) (Value.slice A1 x.zH.length c1).ownBlock.toList [.slice A1 x.zH.length c1]:=HN1.out.ow
 rw[show (Value.slice A1 x.zH.length c1).ownBlock.toList=(Value.slice A1 x.zH.length c1).ownBlock.toList++ [] by simp]
 refine xJ.ow_mk (x:=x) ?_
 repeat(first|with_reducible exact ho|with_reducible refine T.ow_far ?_ G1.out _ _|with_reducible refine T.ow_far ?_ G2.out _ _)
end
end Go.Proofs.YtoibekfhepnedaaGreat
