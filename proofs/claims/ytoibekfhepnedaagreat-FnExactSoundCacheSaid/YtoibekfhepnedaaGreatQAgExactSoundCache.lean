/- Contracts: how much nested data there is. Contracts on whole structs. -/
import Derived.Test.YtoibekfhepnedaaGreatQAbExactSoundCache
import Derived.Test.YtoibekfhepnedaaGreatQAcExactSoundCache
import Derived.Test.YtoibekfhepnedaaGreatQAaExactSoundCache
import Derived.Test.YtoibekfhepnedaaGreatQAeExactSoundCache
import Derived.Test.YtoibekfhepnedaaGreatQAfExactSoundCache
set_option linter.unusedVariables false
set_option linter.unusedSimpArgs false
set_option maxHeartbeats 1000000
set_option maxRecDepth 20000
section
namespace Go.Proofs.YtoibekfhepnedaaGreat
open Go.RowKit
theorem c_szInt64S (v:Value) (xs:List Int) (n:Int) (w:World) (h0:0≤n) (h1:n≤1048576) (hr:T.rd w (T.ints 2 xs) [v]):
  Calls Tryz.prog 56 #[v,.int .i64 n] w fun e w'=> ∃ m:Int,e= .returned (.int .i64 m)∧ -1≤m∧m≤n∧(0≤m→xs.length≤1048576)∧Below w.heap.size w w':=by
 obtain⟨A,cap,rfl,hl,hc,_⟩:=(T.yR.1 hr).open_
 clear hr
 by_cases h4:n<xs.length
 ·go_enter Tryz.func56,Tryz.ntmps56
  go_wp2
  go_ret
  exact⟨-1,rfl,by omega,by omega,fun h=>by omega,Below.refl _ _⟩
 ·go_enter Tryz.func56,Tryz.ntmps56
  go_wp2
  go_ret
  exact⟨_,rfl,by omega,by omega,fun h=>by omega,Below.refl _ _⟩
theorem c_szInt64SS (v:Value) (xs:List (List Int)) (n:Int) (w:World) (h0:0≤n) (h1:n≤1048576) (hr:T.rd w (T.sl 26 1 (xs.map (T.ints 2))) [v]):
  Calls Tryz.prog 64 #[v,.int .i64 n] w fun e w'=> ∃ m:Int,e= .returned (.int .i64 m)∧ -1≤m∧m≤n∧(0≤m→smL (fun l:List Int=>l.length≤1048576) xs)∧Below w.heap.size w w':=by
 obtain⟨A,cap,rfl,hl,hc,hx⟩:=T.yN hr
 rw[List.length_map] at hl ⊢
 have HX:=hide hx;clear hx hr
 by_cases h4:n<xs.length
 ·go_enter Tryz.func64,Tryz.ntmps64
  go_wp2
  go_ret
  exact⟨-1,rfl,by omega,by omega,fun h=>by omega,Below.refl _ _⟩
 ·go_enter Tryz.func64,Tryz.ntmps64
  go_wp2
  go_loopw [1,5] (fun t iv wr=> ∃ (k:Nat) (m:Int),k≤xs.length∧iv= .int .i64 (k:Int)∧t= .int .i64 m∧0≤m∧m≤n - xs.length∧(∀ y ∈ xs.take k,(fun l:List Int=>l.length≤1048576) y)∧Below w.heap.size w wr) (fun _ iv _=>xs.length - (intOf iv).toNat)
  case atStart=>exact⟨0,_,Nat.zero_le _,rfl,rfl,by omega,by omega,by simp,Below.refl _ _⟩
  case round=>
   obtain⟨k,m,hk,rfl,rfl,hm0,hm1,ha,hb⟩:=hrel
   have HA:=hide ha;have HB:=hide hb;clear ha hb
   by_cases hlt:k<xs.length
   ·have hgk:=List.getElem?_eq_getElem hlt
    obtain⟨b,off,cs,rfl,hbw,hcs,hcell⟩:=HX.out k (T.ints 2 xs[k]) (by rw[List.getElem?_map,hgk];rfl)
    obtain⟨v3,rfl⟩:=T.rd_one hcs
    have d0:=(HB.out.cell hbw).trans (hcell 0 v3 rfl)
    rw[Nat.mul_one,Nat.add_zero] at d0
    have R3:=hide (T.yE hcs HB.out)
    generalize xs[k]=x at *
    have HGK:=hide hgk;clear hgk hcs hcell
    go_wp2_with fail
    refine(c_szInt64S _ x m _ hm0 (by omega) R3.out).mono ?_;rintro e w3 ⟨q,rfl,hq0,hq1,hq2,hb3⟩
    have HB3:=hide (yI HB.out HB.out.size hb3);clear hb3
    rcases Int.lt_or_le q 0 with hneg|hpos
    ·have hq:=hq2;clear hq2
     go_wp2
     go_ret
     exact⟨-1,rfl,by omega,by omega,fun h=>by omega,HB3.out⟩
    ·have HQ:=hide (hq2 hpos);clear hq2
     go_wp2
     go_roundw
     case rel=>exact⟨k+1,q,by omega,by go_num,rfl,by omega,by omega,all_take HA.out HGK.out HQ.out,HB3.out⟩
     case measure=>simp[intOf];omega
   ·obtain rfl:k=xs.length:=by omega
    go_wp2
    go_ret
    exact⟨m,rfl,by omega,by omega,fun _=>⟨by omega,all_full HA.out⟩,HB.out⟩
theorem c_szClipS (v:Value) (xs:List GClip) (n:Int) (w:World) (h0:0≤n) (h1:n≤1048576) (hr:T.rd w (T.sl 39 5 (xs.map GClip.t)) [v]):
  Calls Tryz.prog 199 #[v,.int .i64 n] w fun e w'=> ∃ m:Int,e= .returned (.int .i64 m)∧ -1≤m∧m≤n∧(0≤m→xs.length≤1048576)∧Below w.heap.size w w':=by
 obtain⟨A,cap,rfl,hl,hc,hx⟩:=T.yN hr
 rw[List.length_map] at hl ⊢
 clear hr hx
 by_cases h4:n<xs.length
 ·go_enter Tryz.func199,Tryz.ntmps199
  go_wp2
  go_ret
  exact⟨-1,rfl,by omega,by omega,fun h=>by omega,Below.refl _ _⟩
 ·go_enter Tryz.func199,Tryz.ntmps199
  go_wp2
  go_ret
  exact⟨_,rfl,by omega,by omega,fun h=>by omega,Below.refl _ _⟩
theorem c_szTrack (x:GTrack) (v0:Value) (n:Int) (w:World) (h0:0≤n) (h1:n≤1048576) (hg:x.good) (r0:T.rd w (T.sl 39 5 (x.zQ.map GClip.t)) [v0]):
  Calls Tryz.prog 134 #[.agg #[v0],.int .i64 n] w fun e w'=> ∃ m:Int,e= .returned (.int .i64 m)∧ -1≤m∧m≤n∧(0≤m→x.small)∧Below w.heap.size w w':=by
 have R0:=hide r0
 clear r0
 have HG:=hide hg;clear hg
 go_enter Tryz.func134,Tryz.ntmps134
 have HB0:=hide (show Below w.heap.size w (w.alloc (.cells #[v0] 185)) from(Below.refl _ _).alloc (Nat.le_refl _) _)
 have HK0:=hide (Bk.born w 185 #[v0])
 go_wp2_with fail
 refine(c_szClipS _ x.zQ (n) _ (by omega) (by omega) (T.yE R0.out HB0.out)).mono ?_;rintro e w1 ⟨m1,rfl,a1,b1,s1,hb⟩
 have HK1:=hide (HK0.out.below hb (by simp));have HB1:=hide (yI HB0.out (by simp) hb);clear hb
 have k1:=HK1.out.cell
 rcases Int.lt_or_le m1 0 with hn1|hp1
 ·go_wp2
  go_ret
  exact⟨-1,rfl,by omega,by omega,fun h=>by omega,HB1.out⟩
 have S1:=hide (s1 hp1);clear s1
 go_wp2
 go_ret
 exact⟨m1,rfl,by omega,by omega,fun _=>S1.out,HB1.out⟩
theorem c_szTrackS (v:Value) (xs:List GTrack) (n:Int) (w:World) (h0:0≤n) (h1:n≤1048576) (hg: ∀ y ∈ xs,GTrack.good y) (hr:T.rd w (T.sl 96 1 (xs.map GTrack.t)) [v]):
  Calls Tryz.prog 65 #[v,.int .i64 n] w fun e w'=> ∃ m:Int,e= .returned (.int .i64 m)∧ -1≤m∧m≤n∧(0≤m→smL GTrack.small xs)∧Below w.heap.size w w':=by
 obtain⟨A,cap,rfl,hl,hc,hx⟩:=T.yN hr
 rw[List.length_map] at hl ⊢
 have HX:=hide hx;clear hx hr
 have HG:=hide hg;clear hg
 by_cases h4:n<xs.length
 ·go_enter Tryz.func65,Tryz.ntmps65
  go_wp2
  go_ret
  exact⟨-1,rfl,by omega,by omega,fun h=>by omega,Below.refl _ _⟩
 ·go_enter Tryz.func65,Tryz.ntmps65
  go_wp2
  go_loopw [1,5] (fun t iv wr=> ∃ (k:Nat) (m:Int),k≤xs.length∧iv= .int .i64 (k:Int)∧t= .int .i64 m∧0≤m∧m≤n - xs.length∧(∀ y ∈ xs.take k,(GTrack.small) y)∧Below w.heap.size w wr) (fun _ iv _=>xs.length - (intOf iv).toNat)
  case atStart=>exact⟨0,_,Nat.zero_le _,rfl,rfl,by omega,by omega,by simp,Below.refl _ _⟩
  case round=>
   obtain⟨k,m,hk,rfl,rfl,hm0,hm1,ha,hb⟩:=hrel
   have HA:=hide ha;have HB:=hide hb;clear ha hb
   by_cases hlt:k<xs.length
   ·have hgk:=List.getElem?_eq_getElem hlt
    obtain⟨b,off,cs,rfl,hbw,hcs,hcell⟩:=HX.out k (GTrack.t xs[k]) (by rw[List.getElem?_map,hgk];rfl)
    have hgd:=HG.out _ (List.getElem_mem hlt)
    generalize xs[k]=x at *
    have HGK:=hide hgk;clear hgk
    obtain⟨v0,rfl,hR0⟩:=GTrack.yN (show T.rds _ _ _ by simpa only[GTrack.t,T.rd] using hcs)
    have d0:=(HB.out.cell hbw).trans (hcell 0 (v0) rfl)
    rw[show off+(k * 1+0)=off+k by omega] at d0
    have R0:=hide (T.yE hR0 HB.out);clear hR0
    clear hcs hcell
    go_wp2_with fail
    refine(c_szTrack x v0 m _ hm0 (by omega) hgd R0.out).mono ?_;rintro e w3 ⟨q,rfl,hq0,hq1,hq2,hb3⟩
    have HB3:=hide (yI HB.out HB.out.size hb3);clear hb3
    rcases Int.lt_or_le q 0 with hneg|hpos
    ·have hq:=hq2;clear hq2
     go_wp2
     go_ret
     exact⟨-1,rfl,by omega,by omega,fun h=>by omega,HB3.out⟩
    ·have HQ:=hide (hq2 hpos);clear hq2
     go_wp2
     go_roundw
     case rel=>exact⟨k+1,q,by omega,by go_num,rfl,by omega,by omega,all_take HA.out HGK.out HQ.out,HB3.out⟩
     case measure=>simp[intOf];omega
   ·obtain rfl:k=xs.length:=by omega
    go_wp2
    go_ret
    exact⟨m,rfl,by omega,by omega,fun _=>⟨by omega,all_full HA.out⟩,HB.out⟩
theorem c_szNode (x:GNode) (v3:Value) (n:Int) (w:World) (h0:0≤n) (h1:n≤1048576) (hg:x.good) (r3:T.rd w (T.ints 2 x.zH) [v3]):
  Calls Tryz.prog 246 #[.agg #[.int .i64 x.zD,.int .i64 x.fA,.int .i64 x.fB,v3],.int .i64 n] w fun e w'=> ∃ m:Int,e= .returned (.int .i64 m)∧ -1≤m∧m≤n∧(0≤m→x.small)∧Below w.heap.size w w':=by
 have R3:=hide r3
 clear r3
 have HG:=hide hg;clear hg
 go_enter Tryz.func246,Tryz.ntmps246
 have HB0:=hide (show Below w.heap.size w (w.alloc (.cells #[.int .i64 x.zD,.int .i64 x.fA,.int .i64 x.fB,v3] 279)) from(Below.refl _ _).alloc (Nat.le_refl _) _)
 have HK0:=hide (Bk.born w 279 #[.int .i64 x.zD,.int .i64 x.fA,.int .i64 x.fB,v3])
 go_wp2_with fail
 refine(c_szInt64S _ x.zH (n) _ (by omega) (by omega) (T.yE R3.out HB0.out)).mono ?_;rintro e w1 ⟨m1,rfl,a1,b1,s1,hb⟩
 have HK1:=hide (HK0.out.below hb (by simp));have HB1:=hide (yI HB0.out (by simp) hb);clear hb
 have k1:=HK1.out.cell
 rcases Int.lt_or_le m1 0 with hn1|hp1
 ·go_wp2
  go_ret
  exact⟨-1,rfl,by omega,by omega,fun h=>by omega,HB1.out⟩
 have S1:=hide (s1 hp1);clear s1
 go_wp2
 go_ret
 exact⟨m1,rfl,by omega,by omega,fun _=>S1.out,HB1.out⟩
theorem c_szNodeS (v:Value) (xs:List GNode) (n:Int) (w:World) (h0:0≤n) (h1:n≤1048576) (hg: ∀ y ∈ xs,GNode.good y) (hr:T.rd w (T.sl 167 4 (xs.map GNode.t)) [v]):
  Calls Tryz.prog 200 #[v,.int .i64 n] w fun e w'=> ∃ m:Int,e= .returned (.int .i64 m)∧ -1≤m∧m≤n∧(0≤m→smL GNode.small xs)∧Below w.heap.size w w':=by
 obtain⟨A,cap,rfl,hl,hc,hx⟩:=T.yN hr
 rw[List.length_map] at hl ⊢
 have HX:=hide hx;clear hx hr
 have HG:=hide hg;clear hg
 by_cases h4:n<xs.length
 ·go_enter Tryz.func200,Tryz.ntmps200
  go_wp2
  go_ret
  exact⟨-1,rfl,by omega,by omega,fun h=>by omega,Below.refl _ _⟩
 ·go_enter Tryz.func200,Tryz.ntmps200
  go_wp2
  go_loopw [1,5] (fun t iv wr=> ∃ (k:Nat) (m:Int),k≤xs.length∧iv= .int .i64 (k:Int)∧t= .int .i64 m∧0≤m∧m≤n - xs.length∧(∀ y ∈ xs.take k,(GNode.small) y)∧Below w.heap.size w wr) (fun _ iv _=>xs.length - (intOf iv).toNat)
  case atStart=>exact⟨0,_,Nat.zero_le _,rfl,rfl,by omega,by omega,by simp,Below.refl _ _⟩
  case round=>
   obtain⟨k,m,hk,rfl,rfl,hm0,hm1,ha,hb⟩:=hrel
   have HA:=hide ha;have HB:=hide hb;clear ha hb
   by_cases hlt:k<xs.length
   ·have hgk:=List.getElem?_eq_getElem hlt
    obtain⟨b,off,cs,rfl,hbw,hcs,hcell⟩:=HX.out k (GNode.t xs[k]) (by rw[List.getElem?_map,hgk];rfl)
    have hgd:=HG.out _ (List.getElem_mem hlt)
    generalize xs[k]=x at *
    have HGK:=hide hgk;clear hgk
    obtain⟨v3,rfl,hR3⟩:=GNode.yN (show T.rds _ _ _ by simpa only[GNode.t,T.rd] using hcs)
    have d0:=(HB.out.cell hbw).trans (hcell 0 (.int .i64 x.zD) rfl)
    have d1:=(HB.out.cell hbw).trans (hcell 1 (.int .i64 x.fA) rfl)
    have d2:=(HB.out.cell hbw).trans (hcell 2 (.int .i64 x.fB) rfl)
    have d3:=(HB.out.cell hbw).trans (hcell 3 (v3) rfl)
    rw[show off+(k * 4+0)=off+k * 4 by omega] at d0
    rw[show off+(k * 4+1)=off+k * 4+1 by omega] at d1
    rw[show off+(k * 4+2)=off+k * 4+2 by omega] at d2
    rw[show off+(k * 4+3)=off+k * 4+3 by omega] at d3
    have R3:=hide (T.yE hR3 HB.out);clear hR3
    clear hcs hcell
    go_wp2_with fail
    refine(c_szNode x v3 m _ hm0 (by omega) hgd R3.out).mono ?_;rintro e w3 ⟨q,rfl,hq0,hq1,hq2,hb3⟩
    have HB3:=hide (yI HB.out HB.out.size hb3);clear hb3
    rcases Int.lt_or_le q 0 with hneg|hpos
    ·have hq:=hq2;clear hq2
     go_wp2
     go_ret
     exact⟨-1,rfl,by omega,by omega,fun h=>by omega,HB3.out⟩
    ·have HQ:=hide (hq2 hpos);clear hq2
     go_wp2
     go_roundw
     case rel=>exact⟨k+1,q,by omega,by go_num,rfl,by omega,by omega,all_take HA.out HGK.out HQ.out,HB3.out⟩
     case measure=>simp[intOf];omega
   ·obtain rfl:k=xs.length:=by omega
    go_wp2
    go_ret
    exact⟨m,rfl,by omega,by omega,fun _=>⟨by omega,all_full HA.out⟩,HB.out⟩
theorem c_szPatch (x:GPatch) (v1:Value) (v2:Value) (v3:Value) (n:Int) (w:World) (h0:0≤n) (h1:n≤1048576) (hg:x.good) (r1:T.rd w (T.sl 26 1 (x.zM.map (T.ints 2))) [v1]) (r2:T.rd w (T.sl 167 4 (x.zB.map GNode.t)) [v2]) (r3:T.rd w (T.ints 2 x.zL) [v3]):
  Calls Tryz.prog 135 #[.agg #[.int .i64 x.zK,v1,v2,v3],.int .i64 n] w fun e w'=> ∃ m:Int,e= .returned (.int .i64 m)∧ -1≤m∧m≤n∧(0≤m→x.small)∧Below w.heap.size w w':=by
 have R1:=hide r1
 have R2:=hide r2
 have R3:=hide r3
 clear r1 r2 r3
 have HG:=hide hg;clear hg
 go_enter Tryz.func135,Tryz.ntmps135
 have HB0:=hide (show Below w.heap.size w (w.alloc (.cells #[.int .i64 x.zK,v1,v2,v3] 189)) from(Below.refl _ _).alloc (Nat.le_refl _) _)
 have HK0:=hide (Bk.born w 189 #[.int .i64 x.zK,v1,v2,v3])
 go_wp2_with fail
 refine(c_szInt64SS _ x.zM (n) _ (by omega) (by omega) (T.yE R1.out HB0.out)).mono ?_;rintro e w1 ⟨m1,rfl,a1,b1,s1,hb⟩
 have HK1:=hide (HK0.out.below hb (by simp));have HB1:=hide (yI HB0.out (by simp) hb);clear hb
 have k1:=HK1.out.cell
 rcases Int.lt_or_le m1 0 with hn1|hp1
 ·go_wp2
  go_ret
  exact⟨-1,rfl,by omega,by omega,fun h=>by omega,HB1.out⟩
 have S1:=hide (s1 hp1);clear s1
 go_wp2_with fail
 refine(c_szNodeS _ x.zB (m1) _ (by omega) (by omega) (HG.out.2.2.1) (T.yE R2.out HB1.out)).mono ?_;rintro e w2 ⟨m2,rfl,a2,b2,s2,hb⟩
 have HK2:=hide (HK1.out.below hb HK1.out.lt);have HB2:=hide (yI HB1.out HB1.out.size hb);clear hb
 have k2:=HK2.out.cell
 rcases Int.lt_or_le m2 0 with hn2|hp2
 ·go_wp2
  go_ret
  exact⟨-1,rfl,by omega,by omega,fun h=>by omega,HB2.out⟩
 have S2:=hide (s2 hp2);clear s2
 go_wp2_with fail
 refine(c_szInt64S _ x.zL (m2) _ (by omega) (by omega) (T.yE R3.out HB2.out)).mono ?_;rintro e w3 ⟨m3,rfl,a3,b3,s3,hb⟩
 have HK3:=hide (HK2.out.below hb HK2.out.lt);have HB3:=hide (yI HB2.out HB2.out.size hb);clear hb
 have k3:=HK3.out.cell
 rcases Int.lt_or_le m3 0 with hn3|hp3
 ·go_wp2
  go_ret
  exact⟨-1,rfl,by omega,by omega,fun h=>by omega,HB3.out⟩
 have S3:=hide (s3 hp3);clear s3
 go_wp2
 go_ret
 exact⟨m3,rfl,by omega,by omega,fun _=>⟨S1.out,S2.out,S3.out⟩,HB3.out⟩
theorem c_szPatchS (v:Value) (xs:List GPatch) (n:Int) (w:World) (h0:0≤n) (h1:n≤1048576) (hg: ∀ y ∈ xs,GPatch.good y) (hr:T.rd w (T.sl 108 4 (xs.map GPatch.t)) [v]):
  Calls Tryz.prog 66 #[v,.int .i64 n] w fun e w'=> ∃ m:Int,e= .returned (.int .i64 m)∧ -1≤m∧m≤n∧(0≤m→smL GPatch.small xs)∧Below w.heap.size w w':=by
 obtain⟨A,cap,rfl,hl,hc,hx⟩:=T.yN hr
 rw[List.length_map] at hl ⊢
 have HX:=hide hx;clear hx hr
 have HG:=hide hg;clear hg
 by_cases h4:n<xs.length
 ·go_enter Tryz.func66,Tryz.ntmps66
  go_wp2
  go_ret
  exact⟨-1,rfl,by omega,by omega,fun h=>by omega,Below.refl _ _⟩
 ·go_enter Tryz.func66,Tryz.ntmps66
  go_wp2
  go_loopw [1,5] (fun t iv wr=> ∃ (k:Nat) (m:Int),k≤xs.length∧iv= .int .i64 (k:Int)∧t= .int .i64 m∧0≤m∧m≤n - xs.length∧(∀ y ∈ xs.take k,(GPatch.small) y)∧Below w.heap.size w wr) (fun _ iv _=>xs.length - (intOf iv).toNat)
  case atStart=>exact⟨0,_,Nat.zero_le _,rfl,rfl,by omega,by omega,by simp,Below.refl _ _⟩
  case round=>
   obtain⟨k,m,hk,rfl,rfl,hm0,hm1,ha,hb⟩:=hrel
   have HA:=hide ha;have HB:=hide hb;clear ha hb
   by_cases hlt:k<xs.length
   ·have hgk:=List.getElem?_eq_getElem hlt
    obtain⟨b,off,cs,rfl,hbw,hcs,hcell⟩:=HX.out k (GPatch.t xs[k]) (by rw[List.getElem?_map,hgk];rfl)
    have hgd:=HG.out _ (List.getElem_mem hlt)
    generalize xs[k]=x at *
    have HGK:=hide hgk;clear hgk
    obtain⟨v1,v2,v3,rfl,hR1,hR2,hR3⟩:=GPatch.yN (show T.rds _ _ _ by simpa only[GPatch.t,T.rd] using hcs)
    have d0:=(HB.out.cell hbw).trans (hcell 0 (.int .i64 x.zK) rfl)
    have d1:=(HB.out.cell hbw).trans (hcell 1 (v1) rfl)
    have d2:=(HB.out.cell hbw).trans (hcell 2 (v2) rfl)
    have d3:=(HB.out.cell hbw).trans (hcell 3 (v3) rfl)
    rw[show off+(k * 4+0)=off+k * 4 by omega] at d0
    rw[show off+(k * 4+1)=off+k * 4+1 by omega] at d1
    rw[show off+(k * 4+2)=off+k * 4+2 by omega] at d2
    rw[show off+(k * 4+3)=off+k * 4+3 by omega] at d3
    have R1:=hide (T.yE hR1 HB.out);clear hR1
    have R2:=hide (T.yE hR2 HB.out);clear hR2
    have R3:=hide (T.yE hR3 HB.out);clear hR3
    clear hcs hcell
    go_wp2_with fail
    refine(c_szPatch x v1 v2 v3 m _ hm0 (by omega) hgd R1.out R2.out R3.out).mono ?_;rintro e w3 ⟨q,rfl,hq0,hq1,hq2,hb3⟩
    have HB3:=hide (yI HB.out HB.out.size hb3);clear hb3
    rcases Int.lt_or_le q 0 with hneg|hpos
    ·have hq:=hq2;clear hq2
     go_wp2
     go_ret
     exact⟨-1,rfl,by omega,by omega,fun h=>by omega,HB3.out⟩
    ·have HQ:=hide (hq2 hpos);clear hq2
     go_wp2
     go_roundw
     case rel=>exact⟨k+1,q,by omega,by go_num,rfl,by omega,by omega,all_take HA.out HGK.out HQ.out,HB3.out⟩
     case measure=>simp[intOf];omega
   ·obtain rfl:k=xs.length:=by omega
    go_wp2
    go_ret
    exact⟨m,rfl,by omega,by omega,fun _=>⟨by omega,all_full HA.out⟩,HB.out⟩
theorem c_szSendS (v:Value) (xs:List GSend) (n:Int) (w:World) (h0:0≤n) (h1:n≤1048576) (hr:T.rd w (T.sl 98 2 (xs.map GSend.t)) [v]):
  Calls Tryz.prog 247 #[v,.int .i64 n] w fun e w'=> ∃ m:Int,e= .returned (.int .i64 m)∧ -1≤m∧m≤n∧(0≤m→xs.length≤1048576)∧Below w.heap.size w w':=by
 obtain⟨A,cap,rfl,hl,hc,hx⟩:=T.yN hr
 rw[List.length_map] at hl ⊢
 clear hr hx
 by_cases h4:n<xs.length
 ·go_enter Tryz.func247,Tryz.ntmps247
  go_wp2
  go_ret
  exact⟨-1,rfl,by omega,by omega,fun h=>by omega,Below.refl _ _⟩
 ·go_enter Tryz.func247,Tryz.ntmps247
  go_wp2
  go_ret
  exact⟨_,rfl,by omega,by omega,fun h=>by omega,Below.refl _ _⟩
theorem c_szStrip (x:GStrip) (v2:Value) (n:Int) (w:World) (h0:0≤n) (h1:n≤1048576) (hg:x.good) (r2:T.rd w (T.sl 98 2 (x.zJ.map GSend.t)) [v2]):
  Calls Tryz.prog 201 #[.agg #[.string x.zU,.int .i64 x.zI,v2],.int .i64 n] w fun e w'=> ∃ m:Int,e= .returned (.int .i64 m)∧ -1≤m∧m≤n∧(0≤m→x.small)∧Below w.heap.size w w':=by
 have R2:=hide r2
 clear r2
 have hgs0:x.zU.size≤9223372036854775807:=hg.1
 have HG:=hide hg;clear hg
 go_enter Tryz.func201,Tryz.ntmps201
 have HB0:=hide (show Below w.heap.size w (w.alloc (.cells #[.string x.zU,.int .i64 x.zI,v2] 243)) from(Below.refl _ _).alloc (Nat.le_refl _) _)
 have HK0:=hide (Bk.born w 243 #[.string x.zU,.int .i64 x.zI,v2])
 by_cases hs0:n<x.zU.size
 ·go_wp2
  go_ret
  exact⟨-1,rfl,by omega,by omega,fun h=>by omega,(by first|exact HB0.out|exact undrew HB0.out|exact Below.drew HB0.out|exact Below.drew (undrew HB0.out)|exact undrewN HB0.out|exact below_drewN HB0.out _)⟩
 go_wp2_with fail
 refine(c_szSendS _ x.zJ (n - x.zU.size) _ (by omega) (by omega) (T.yE R2.out HB0.out)).mono ?_;rintro e w1 ⟨m1,rfl,a1,b1,s1,hb⟩
 have HK1:=hide (HK0.out.below hb (by simp));have HB1:=hide (yI HB0.out (by simp) hb);clear hb
 have k1:=HK1.out.cell
 rcases Int.lt_or_le m1 0 with hn1|hp1
 ·go_wp2
  go_ret
  exact⟨-1,rfl,by omega,by omega,fun h=>by omega,HB1.out⟩
 have S1:=hide (s1 hp1);clear s1
 go_wp2
 go_ret
 exact⟨m1,rfl,by omega,by omega,fun _=>⟨by omega,S1.out⟩,HB1.out⟩
theorem c_szStripS (v:Value) (xs:List GStrip) (n:Int) (w:World) (h0:0≤n) (h1:n≤1048576) (hg: ∀ y ∈ xs,GStrip.good y) (hr:T.rd w (T.sl 101 3 (xs.map GStrip.t)) [v]):
  Calls Tryz.prog 136 #[v,.int .i64 n] w fun e w'=> ∃ m:Int,e= .returned (.int .i64 m)∧ -1≤m∧m≤n∧(0≤m→smL GStrip.small xs)∧Below w.heap.size w w':=by
 obtain⟨A,cap,rfl,hl,hc,hx⟩:=T.yN hr
 rw[List.length_map] at hl ⊢
 have HX:=hide hx;clear hx hr
 have HG:=hide hg;clear hg
 by_cases h4:n<xs.length
 ·go_enter Tryz.func136,Tryz.ntmps136
  go_wp2
  go_ret
  exact⟨-1,rfl,by omega,by omega,fun h=>by omega,Below.refl _ _⟩
 ·go_enter Tryz.func136,Tryz.ntmps136
  go_wp2
  go_loopw [1,5] (fun t iv wr=> ∃ (k:Nat) (m:Int),k≤xs.length∧iv= .int .i64 (k:Int)∧t= .int .i64 m∧0≤m∧m≤n - xs.length∧(∀ y ∈ xs.take k,(GStrip.small) y)∧Below w.heap.size w wr) (fun _ iv _=>xs.length - (intOf iv).toNat)
  case atStart=>exact⟨0,_,Nat.zero_le _,rfl,rfl,by omega,by omega,by simp,Below.refl _ _⟩
  case round=>
   obtain⟨k,m,hk,rfl,rfl,hm0,hm1,ha,hb⟩:=hrel
   have HA:=hide ha;have HB:=hide hb;clear ha hb
   by_cases hlt:k<xs.length
   ·have hgk:=List.getElem?_eq_getElem hlt
    obtain⟨b,off,cs,rfl,hbw,hcs,hcell⟩:=HX.out k (GStrip.t xs[k]) (by rw[List.getElem?_map,hgk];rfl)
    have hgd:=HG.out _ (List.getElem_mem hlt)
    generalize xs[k]=x at *
    have HGK:=hide hgk;clear hgk
    obtain⟨v2,rfl,hR2⟩:=GStrip.yN (show T.rds _ _ _ by simpa only[GStrip.t,T.rd] using hcs)
    have d0:=(HB.out.cell hbw).trans (hcell 0 (.string x.zU) rfl)
    have d1:=(HB.out.cell hbw).trans (hcell 1 (.int .i64 x.zI) rfl)
    have d2:=(HB.out.cell hbw).trans (hcell 2 (v2) rfl)
    rw[show off+(k * 3+0)=off+k * 3 by omega] at d0
    rw[show off+(k * 3+1)=off+k * 3+1 by omega] at d1
    rw[show off+(k * 3+2)=off+k * 3+2 by omega] at d2
    have R2:=hide (T.yE hR2 HB.out);clear hR2
    clear hcs hcell
    go_wp2_with fail
    refine(c_szStrip x v2 m _ hm0 (by omega) hgd R2.out).mono ?_;rintro e w3 ⟨q,rfl,hq0,hq1,hq2,hb3⟩
    have HB3:=hide (yI HB.out HB.out.size hb3);clear hb3
    rcases Int.lt_or_le q 0 with hneg|hpos
    ·have hq:=hq2;clear hq2
     go_wp2
     go_ret
     exact⟨-1,rfl,by omega,by omega,fun h=>by omega,HB3.out⟩
    ·have HQ:=hide (hq2 hpos);clear hq2
     go_wp2
     go_roundw
     case rel=>exact⟨k+1,q,by omega,by go_num,rfl,by omega,by omega,all_take HA.out HGK.out HQ.out,HB3.out⟩
     case measure=>simp[intOf];omega
   ·obtain rfl:k=xs.length:=by omega
    go_wp2
    go_ret
    exact⟨m,rfl,by omega,by omega,fun _=>⟨by omega,all_full HA.out⟩,HB.out⟩
theorem c_szMixer (x:GMixer) (v0:Value) (n:Int) (w:World) (h0:0≤n) (h1:n≤1048576) (hg:x.good) (r0:T.rd w (T.sl 101 3 (x.zC.map GStrip.t)) [v0]):
  Calls Tryz.prog 67 #[.agg #[v0],.int .i64 n] w fun e w'=> ∃ m:Int,e= .returned (.int .i64 m)∧ -1≤m∧m≤n∧(0≤m→x.small)∧Below w.heap.size w w':=by
 have R0:=hide r0
 clear r0
 have HG:=hide hg;clear hg
 go_enter Tryz.func67,Tryz.ntmps67
 have HB0:=hide (show Below w.heap.size w (w.alloc (.cells #[v0] 57)) from(Below.refl _ _).alloc (Nat.le_refl _) _)
 have HK0:=hide (Bk.born w 57 #[v0])
 go_wp2_with fail
 refine(c_szStripS _ x.zC (n) _ (by omega) (by omega) (HG.out) (T.yE R0.out HB0.out)).mono ?_;rintro e w1 ⟨m1,rfl,a1,b1,s1,hb⟩
 have HK1:=hide (HK0.out.below hb (by simp));have HB1:=hide (yI HB0.out (by simp) hb);clear hb
 have k1:=HK1.out.cell
 rcases Int.lt_or_le m1 0 with hn1|hp1
 ·go_wp2
  go_ret
  exact⟨-1,rfl,by omega,by omega,fun h=>by omega,HB1.out⟩
 have S1:=hide (s1 hp1);clear s1
 go_wp2
 go_ret
 exact⟨m1,rfl,by omega,by omega,fun _=>S1.out,HB1.out⟩
theorem c_szSession (x:GSession) (v1:Value) (v2:Value) (v3:Value) (v4:Value) (v5:Value) (n:Int) (w:World) (h0:0≤n) (h1:n≤1048576) (hg:x.good) (r1:T.rd w (T.sl 26 1 (x.zN.map (T.ints 2))) [v1]) (r2:T.rd w (T.sl 96 1 (x.zO.map GTrack.t)) [v2]) (r3:T.rd w (T.ints 2 x.zS) [v3]) (r4:T.rd w (T.sl 108 4 (x.zP.map GPatch.t)) [v4]) (r5:T.rd w (T.sl 101 3 (x.zF.zC.map GStrip.t)) [v5]):
  Calls Tryz.prog 24 #[.agg #[.int .i64 x.zG,v1,v2,v3,v4,v5],.int .i64 n] w fun e w'=> ∃ m:Int,e= .returned (.int .i64 m)∧ -1≤m∧m≤n∧(0≤m→x.small)∧Below w.heap.size w w':=by
 have R1:=hide r1
 have R2:=hide r2
 have R3:=hide r3
 have R4:=hide r4
 have R5:=hide r5
 clear r1 r2 r3 r4 r5
 have HG:=hide hg;clear hg
 go_enter Tryz.func24,Tryz.ntmps24
 have HB0:=hide (show Below w.heap.size w (w.alloc (.cells #[.int .i64 x.zG,v1,v2,v3,v4,v5] 59)) from(Below.refl _ _).alloc (Nat.le_refl _) _)
 have HK0:=hide (Bk.born w 59 #[.int .i64 x.zG,v1,v2,v3,v4,v5])
 go_wp2_with fail
 refine(c_szInt64SS _ x.zN (n) _ (by omega) (by omega) (T.yE R1.out HB0.out)).mono ?_;rintro e w1 ⟨m1,rfl,a1,b1,s1,hb⟩
 have HK1:=hide (HK0.out.below hb (by simp));have HB1:=hide (yI HB0.out (by simp) hb);clear hb
 have k1:=HK1.out.cell
 rcases Int.lt_or_le m1 0 with hn1|hp1
 ·go_wp2
  go_ret
  exact⟨-1,rfl,by omega,by omega,fun h=>by omega,HB1.out⟩
 have S1:=hide (s1 hp1);clear s1
 go_wp2_with fail
 refine(c_szTrackS _ x.zO (m1) _ (by omega) (by omega) (HG.out.2.2.1) (T.yE R2.out HB1.out)).mono ?_;rintro e w2 ⟨m2,rfl,a2,b2,s2,hb⟩
 have HK2:=hide (HK1.out.below hb HK1.out.lt);have HB2:=hide (yI HB1.out HB1.out.size hb);clear hb
 have k2:=HK2.out.cell
 rcases Int.lt_or_le m2 0 with hn2|hp2
 ·go_wp2
  go_ret
  exact⟨-1,rfl,by omega,by omega,fun h=>by omega,HB2.out⟩
 have S2:=hide (s2 hp2);clear s2
 go_wp2_with fail
 refine(c_szInt64S _ x.zS (m2) _ (by omega) (by omega) (T.yE R3.out HB2.out)).mono ?_;rintro e w3 ⟨m3,rfl,a3,b3,s3,hb⟩
 have HK3:=hide (HK2.out.below hb HK2.out.lt);have HB3:=hide (yI HB2.out HB2.out.size hb);clear hb
 have k3:=HK3.out.cell
 rcases Int.lt_or_le m3 0 with hn3|hp3
 ·go_wp2
  go_ret
  exact⟨-1,rfl,by omega,by omega,fun h=>by omega,HB3.out⟩
 have S3:=hide (s3 hp3);clear s3
 go_wp2_with fail
 refine(c_szPatchS _ x.zP (m3) _ (by omega) (by omega) (HG.out.2.2.2.2.1) (T.yE R4.out HB3.out)).mono ?_;rintro e w4 ⟨m4,rfl,a4,b4,s4,hb⟩
 have HK4:=hide (HK3.out.below hb HK3.out.lt);have HB4:=hide (yI HB3.out HB3.out.size hb);clear hb
 have k4:=HK4.out.cell
 rcases Int.lt_or_le m4 0 with hn4|hp4
 ·go_wp2
  go_ret
  exact⟨-1,rfl,by omega,by omega,fun h=>by omega,HB4.out⟩
 have S4:=hide (s4 hp4);clear s4
 go_wp2_with fail
 refine(c_szMixer x.zF v5 (m4) _ (by omega) (by omega) (HG.out.2.2.2.2.2) (T.yE R5.out HB4.out)).mono ?_;rintro e w5 ⟨m5,rfl,a5,b5,s5,hb⟩
 have HK5:=hide (HK4.out.below hb HK4.out.lt);have HB5:=hide (yI HB4.out HB4.out.size hb);clear hb
 have k5:=HK5.out.cell
 rcases Int.lt_or_le m5 0 with hn5|hp5
 ·go_wp2
  go_ret
  exact⟨-1,rfl,by omega,by omega,fun h=>by omega,HB5.out⟩
 have S5:=hide (s5 hp5);clear s5
 go_wp2
 go_ret
 exact⟨m5,rfl,by omega,by omega,fun _=>⟨S1.out,S2.out,S3.out,S4.out,S5.out⟩,HB5.out⟩
theorem c_szCache (x:GCache) (v1:Value) (v2:Value) (v3:Value) (v4:Value) (v5:Value) (v6:Value) (v7:Value) (n:Int) (w:World) (h0:0≤n) (h1:n≤1048576) (hg:x.good) (r1:T.rd w (T.sl 26 1 (x.zE.zN.map (T.ints 2))) [v1]) (r2:T.rd w (T.sl 96 1 (x.zE.zO.map GTrack.t)) [v2]) (r3:T.rd w (T.ints 2 x.zE.zS) [v3]) (r4:T.rd w (T.sl 108 4 (x.zE.zP.map GPatch.t)) [v4]) (r5:T.rd w (T.sl 101 3 (x.zE.zF.zC.map GStrip.t)) [v5]) (r6:T.rd w (T.ints 2 x.zY) [v6]) (r7:T.rd w (T.ints 2 x.zW) [v7]):
  Calls Tryz.prog 19 #[.agg #[.int .i64 x.zE.zG,v1,v2,v3,v4,v5,v6,v7],.int .i64 n] w fun e w'=> ∃ m:Int,e= .returned (.int .i64 m)∧ -1≤m∧m≤n∧(0≤m→x.small)∧Below w.heap.size w w':=by
 have R1:=hide r1
 have R2:=hide r2
 have R3:=hide r3
 have R4:=hide r4
 have R5:=hide r5
 have R6:=hide r6
 have R7:=hide r7
 clear r1 r2 r3 r4 r5 r6 r7
 have HG:=hide hg;clear hg
 go_enter Tryz.func19,Tryz.ntmps19
 have HB0:=hide (show Below w.heap.size w (w.alloc (.cells #[.int .i64 x.zE.zG,v1,v2,v3,v4,v5,v6,v7] 61)) from(Below.refl _ _).alloc (Nat.le_refl _) _)
 have HK0:=hide (Bk.born w 61 #[.int .i64 x.zE.zG,v1,v2,v3,v4,v5,v6,v7])
 go_wp2_with fail
 refine(c_szSession x.zE v1 v2 v3 v4 v5 (n) _ (by omega) (by omega) ⟨HG.out.1,HG.out.2.1,HG.out.2.2.1,HG.out.2.2.2.1,HG.out.2.2.2.2.1,HG.out.2.2.2.2.2.1⟩ (T.yE R1.out HB0.out) (T.yE R2.out HB0.out) (T.yE R3.out HB0.out) (T.yE R4.out HB0.out) (T.yE R5.out HB0.out)).mono ?_;rintro e w1 ⟨m1,rfl,a1,b1,s1,hb⟩
 have HK1:=hide (HK0.out.below hb (by simp));have HB1:=hide (yI HB0.out (by simp) hb);clear hb
 have k1:=HK1.out.cell
 rcases Int.lt_or_le m1 0 with hn1|hp1
 ·go_wp2
  go_ret
  exact⟨-1,rfl,by omega,by omega,fun h=>by omega,HB1.out⟩
 have S1:=hide (s1 hp1);clear s1
 go_wp2_with fail
 refine(c_szInt64S _ x.zY (m1) _ (by omega) (by omega) (T.yE R6.out HB1.out)).mono ?_;rintro e w2 ⟨m2,rfl,a2,b2,s2,hb⟩
 have HK2:=hide (HK1.out.below hb HK1.out.lt);have HB2:=hide (yI HB1.out HB1.out.size hb);clear hb
 have k2:=HK2.out.cell
 rcases Int.lt_or_le m2 0 with hn2|hp2
 ·go_wp2
  go_ret
  exact⟨-1,rfl,by omega,by omega,fun h=>by omega,HB2.out⟩
 have S2:=hide (s2 hp2);clear s2
 go_wp2_with fail
 refine(c_szInt64S _ x.zW (m2) _ (by omega) (by omega) (T.yE R7.out HB2.out)).mono ?_;rintro e w3 ⟨m3,rfl,a3,b3,s3,hb⟩
 have HK3:=hide (HK2.out.below hb HK2.out.lt);have HB3:=hide (yI HB2.out HB2.out.size hb);clear hb
 have k3:=HK3.out.cell
 rcases Int.lt_or_le m3 0 with hn3|hp3
 ·go_wp2
  go_ret
  exact⟨-1,rfl,by omega,by omega,fun h=>by omega,HB3.out⟩
 have S3:=hide (s3 hp3);clear s3
 go_wp2
 go_ret
 exact⟨m3,rfl,by omega,by omega,fun _=>⟨S1.out.1,S1.out.2.1,S1.out.2.2.1,S1.out.2.2.2.1,S1.out.2.2.2.2,S2.out,S3.out⟩,HB3.out⟩
end Go.Proofs.YtoibekfhepnedaaGreat
end
section
namespace Go.Proofs.YtoibekfhepnedaaGreat
open Go.RowKit
theorem T.rds_below {w w':World} {x:List T} {cs:List Value} (h:T.rds w x cs) (hb:Below w.heap.size w w'):T.rds w' x cs:=T.rds_keep hb.size hb.block x cs h
theorem b_toCache (x:GCache) (cs:List Value) (w:World) (hs:x.small) (h:T.rds w x.fs cs):Calls Tryz.prog 21 #[.agg cs.toArray] w fun e w'=> ∃ ds,e= .returned (.agg ds.toArray)∧T.rds w' x.fs ds∧Below w.heap.size w w':=by
 obtain⟨v1,v2,v3,v4,v5,v6,v7,rfl,h1,h2,h3,h4,h5,h6,h7⟩:=GCache.yN h
 refine(c_toCache x _ _ _ _ _ _ _ w hs h1 h2 h3 h4 h5 h6 h7).mono ?_
 rintro e w' ⟨u1,F1,u2,F2,u3,F3,u4,F4,u5,F5,u6,F6,u7,F7,rfl,o1,o2,o3,o4,o5,o6,o7,sg,hb⟩
 exact⟨_,rfl,GCache.rd_mk (T.ow_rd _ _ _ o1) (T.ow_rd _ _ _ o2) (T.ow_rd _ _ _ o3) (T.ow_rd _ _ _ o4) (T.ow_rd _ _ _ o5) (T.ow_rd _ _ _ o6) (T.ow_rd _ _ _ o7),hb⟩
theorem b_eqCache (x:GCache) (cs ds:List Value) (w:World) (h:T.rds w x.fs cs) (g:T.rds w x.fs ds):Calls Tryz.prog 23 #[.agg cs.toArray,.agg ds.toArray] w fun e w'=>e= .returned (.bool true)∧Below w.heap.size w w':=by
 obtain⟨v1,v2,v3,v4,v5,v6,v7,rfl,h1,h2,h3,h4,h5,h6,h7⟩:=GCache.yN h
 obtain⟨u1,u2,u3,u4,u5,u6,u7,rfl,k1,k2,k3,k4,k5,k6,k7⟩:=GCache.yN g
 exact c_eqCache x _ _ _ _ _ _ _ _ _ _ _ _ _ _ w h1 h2 h3 h4 h5 h6 h7 k1 k2 k3 k4 k5 k6 k7
end Go.Proofs.YtoibekfhepnedaaGreat
end
