/- Contracts: how much nested data there is. Contracts on whole structs. What valid sessions and caches are, in plain words. -/
import Derived.Test.YtbgedljbgkcpiaaGreatDoorQAgExactDiffSessions
import Derived.Test.YtbgedljbgkcpiaaGreatDoorQAbExactDiffSessions
import Derived.Test.YtbgedljbgkcpiaaGreatDoorQAaExactDiffSessions
import Derived.Test.YtbgedljbgkcpiaaGreatDoorQAhExactDiffSessions
import Derived.Test.YtbgedljbgkcpiaaGreatDoorQAiExactDiffSessions
import Derived.Test.YtbgedljbgkcpiaaGreatDoorQAjExactDiffSessions
set_option linter.unusedVariables false
set_option linter.unusedSimpArgs false
set_option maxHeartbeats 1000000
set_option maxRecDepth 20000
section
namespace Go.Proofs.YtbgedljbgkcpiaaGreatDoor
open Go.RowKit
theorem c_szInt64S (v:Value) (xs:List Int) (n:Int) (w:World) (h0:0≤n) (h1:n≤1048576) (hr:T.rd w (T.ints 2 xs) [v]):
  Calls Tryz.prog 15 #[v,.int .i64 n] w fun e w'=> ∃ m:Int,e= .returned (.int .i64 m)∧ -1≤m∧m≤n∧(0≤m→xs.length≤1048576)∧Below w.heap.size w w':=by
 obtain⟨A,cap,rfl,hl,hc,_⟩:=(T.yQ.1 hr).open_
 clear hr
 by_cases h4:n<xs.length
 ·go_enter Tryz.func15,Tryz.ntmps15
  go_wp2
  go_ret
  exact⟨-1,rfl,by omega,by omega,fun h=>by omega,Below.refl _ _⟩
 ·go_enter Tryz.func15,Tryz.ntmps15
  go_wp2
  go_ret
  exact⟨_,rfl,by omega,by omega,fun h=>by omega,Below.refl _ _⟩
theorem c_szInt64SS (v:Value) (xs:List (List Int)) (n:Int) (w:World) (h0:0≤n) (h1:n≤1048576) (hr:T.rd w (T.sl 24 1 (xs.map (T.ints 2))) [v]):
  Calls Tryz.prog 13 #[v,.int .i64 n] w fun e w'=> ∃ m:Int,e= .returned (.int .i64 m)∧ -1≤m∧m≤n∧(0≤m→smL (fun l:List Int=>l.length≤1048576) xs)∧Below w.heap.size w w':=by
 obtain⟨A,cap,rfl,hl,hc,hx⟩:=T.yM hr
 rw[List.length_map] at hl ⊢
 have HX:=hide hx;clear hx hr
 by_cases h4:n<xs.length
 ·go_enter Tryz.func13,Tryz.ntmps13
  go_wp2
  go_ret
  exact⟨-1,rfl,by omega,by omega,fun h=>by omega,Below.refl _ _⟩
 ·go_enter Tryz.func13,Tryz.ntmps13
  go_wp2
  go_loopw [1,5] (fun t iv wr=> ∃ (k:Nat) (m:Int),k≤xs.length∧iv= .int .i64 (k:Int)∧t= .int .i64 m∧0≤m∧m≤n - xs.length∧(∀ y ∈ xs.take k,(fun l:List Int=>l.length≤1048576) y)∧Below w.heap.size w wr) (fun _ iv _=>xs.length - (intOf iv).toNat)
  case atStart=>exact⟨0,_,Nat.zero_le _,rfl,rfl,by omega,by omega,by simp,Below.refl _ _⟩
  case round=>
   obtain⟨k,m,hk,rfl,rfl,hm0,hm1,ha,hb⟩:=hrel
   have HA:=hide ha;have HB:=hide hb;clear ha hb
   by_cases hlt:k<xs.length
   ·have hgk:=List.getElem?_eq_getElem hlt
    obtain⟨b,off,cs,rfl,hbw,hcs,hcell⟩:=HX.out k (T.ints 2 xs[k]) (by rw[List.getElem?_map,hgk];rfl)
    obtain⟨v3,rfl⟩:=T.rd_one hcs
    have d0:=(HB.out.cell hbw).trans (hcell 0 v3 rfl)
    rw[Nat.mul_one,Nat.add_zero] at d0
    have R3:=hide (T.yD hcs HB.out)
    generalize xs[k]=x at *
    have HGK:=hide hgk;clear hgk hcs hcell
    go_wp2_with fail
    refine(c_szInt64S _ x m _ hm0 (by omega) R3.out).mono ?_;rintro e w3 ⟨q,rfl,hq0,hq1,hq2,hb3⟩
    have HB3:=hide (yH HB.out HB.out.size hb3);clear hb3
    rcases Int.lt_or_le q 0 with hneg|hpos
    ·have hq:=hq2;clear hq2
     go_wp2
     go_ret
     exact⟨-1,rfl,by omega,by omega,fun h=>by omega,HB3.out⟩
    ·have HQ:=hide (hq2 hpos);clear hq2
     go_wp2
     go_roundw
     case rel=>exact⟨k+1,q,by omega,by go_num,rfl,by omega,by omega,all_take HA.out HGK.out HQ.out,HB3.out⟩
     case measure=>simp[intOf];omega
   ·obtain rfl:k=xs.length:=by omega
    go_wp2
    go_ret
    exact⟨m,rfl,by omega,by omega,fun _=>⟨by omega,all_full HA.out⟩,HB.out⟩
theorem c_szClipS (v:Value) (xs:List GClip) (n:Int) (w:World) (h0:0≤n) (h1:n≤1048576) (hr:T.rd w (T.sl 107 5 (xs.map GClip.t)) [v]):
  Calls Tryz.prog 87 #[v,.int .i64 n] w fun e w'=> ∃ m:Int,e= .returned (.int .i64 m)∧ -1≤m∧m≤n∧(0≤m→xs.length≤1048576)∧Below w.heap.size w w':=by
 obtain⟨A,cap,rfl,hl,hc,hx⟩:=T.yM hr
 rw[List.length_map] at hl ⊢
 clear hr hx
 by_cases h4:n<xs.length
 ·go_enter Tryz.func87,Tryz.ntmps87
  go_wp2
  go_ret
  exact⟨-1,rfl,by omega,by omega,fun h=>by omega,Below.refl _ _⟩
 ·go_enter Tryz.func87,Tryz.ntmps87
  go_wp2
  go_ret
  exact⟨_,rfl,by omega,by omega,fun h=>by omega,Below.refl _ _⟩
theorem c_szTrack (x:GTrack) (v0:Value) (n:Int) (w:World) (h0:0≤n) (h1:n≤1048576) (hg:x.good) (r0:T.rd w (T.sl 107 5 (x.zR.map GClip.t)) [v0]):
  Calls Tryz.prog 44 #[.agg #[v0],.int .i64 n] w fun e w'=> ∃ m:Int,e= .returned (.int .i64 m)∧ -1≤m∧m≤n∧(0≤m→x.small)∧Below w.heap.size w w':=by
 have R0:=hide r0
 clear r0
 have HG:=hide hg;clear hg
 go_enter Tryz.func44,Tryz.ntmps44
 have HB0:=hide (show Below w.heap.size w (w.alloc (.cells #[v0] 84)) from(Below.refl _ _).alloc (Nat.le_refl _) _)
 have HK0:=hide (Bk.born w 84 #[v0])
 go_wp2_with fail
 refine(c_szClipS _ x.zR (n) _ (by omega) (by omega) (T.yD R0.out HB0.out)).mono ?_;rintro e w1 ⟨m1,rfl,a1,b1,s1,hb⟩
 have HK1:=hide (HK0.out.below hb (by simp));have HB1:=hide (yH HB0.out (by simp) hb);clear hb
 have k1:=HK1.out.cell
 rcases Int.lt_or_le m1 0 with hn1|hp1
 ·go_wp2
  go_ret
  exact⟨-1,rfl,by omega,by omega,fun h=>by omega,HB1.out⟩
 have S1:=hide (s1 hp1);clear s1
 go_wp2
 go_ret
 exact⟨m1,rfl,by omega,by omega,fun _=>S1.out,HB1.out⟩
theorem c_szTrackS (v:Value) (xs:List GTrack) (n:Int) (w:World) (h0:0≤n) (h1:n≤1048576) (hg: ∀ y ∈ xs,GTrack.good y) (hr:T.rd w (T.sl 98 1 (xs.map GTrack.t)) [v]):
  Calls Tryz.prog 14 #[v,.int .i64 n] w fun e w'=> ∃ m:Int,e= .returned (.int .i64 m)∧ -1≤m∧m≤n∧(0≤m→smL GTrack.small xs)∧Below w.heap.size w w':=by
 obtain⟨A,cap,rfl,hl,hc,hx⟩:=T.yM hr
 rw[List.length_map] at hl ⊢
 have HX:=hide hx;clear hx hr
 have HG:=hide hg;clear hg
 by_cases h4:n<xs.length
 ·go_enter Tryz.func14,Tryz.ntmps14
  go_wp2
  go_ret
  exact⟨-1,rfl,by omega,by omega,fun h=>by omega,Below.refl _ _⟩
 ·go_enter Tryz.func14,Tryz.ntmps14
  go_wp2
  go_loopw [1,5] (fun t iv wr=> ∃ (k:Nat) (m:Int),k≤xs.length∧iv= .int .i64 (k:Int)∧t= .int .i64 m∧0≤m∧m≤n - xs.length∧(∀ y ∈ xs.take k,(GTrack.small) y)∧Below w.heap.size w wr) (fun _ iv _=>xs.length - (intOf iv).toNat)
  case atStart=>exact⟨0,_,Nat.zero_le _,rfl,rfl,by omega,by omega,by simp,Below.refl _ _⟩
  case round=>
   obtain⟨k,m,hk,rfl,rfl,hm0,hm1,ha,hb⟩:=hrel
   have HA:=hide ha;have HB:=hide hb;clear ha hb
   by_cases hlt:k<xs.length
   ·have hgk:=List.getElem?_eq_getElem hlt
    obtain⟨b,off,cs,rfl,hbw,hcs,hcell⟩:=HX.out k (GTrack.t xs[k]) (by rw[List.getElem?_map,hgk];rfl)
    have hgd:=HG.out _ (List.getElem_mem hlt)
    generalize xs[k]=x at *
    have HGK:=hide hgk;clear hgk
    obtain⟨v0,rfl,hR0⟩:=GTrack.yM (show T.rds _ _ _ by simpa only[GTrack.t,T.rd] using hcs)
    have d0:=(HB.out.cell hbw).trans (hcell 0 (v0) rfl)
    rw[show off+(k * 1+0)=off+k by omega] at d0
    have R0:=hide (T.yD hR0 HB.out);clear hR0
    clear hcs hcell
    go_wp2_with fail
    refine(c_szTrack x v0 m _ hm0 (by omega) hgd R0.out).mono ?_;rintro e w3 ⟨q,rfl,hq0,hq1,hq2,hb3⟩
    have HB3:=hide (yH HB.out HB.out.size hb3);clear hb3
    rcases Int.lt_or_le q 0 with hneg|hpos
    ·have hq:=hq2;clear hq2
     go_wp2
     go_ret
     exact⟨-1,rfl,by omega,by omega,fun h=>by omega,HB3.out⟩
    ·have HQ:=hide (hq2 hpos);clear hq2
     go_wp2
     go_roundw
     case rel=>exact⟨k+1,q,by omega,by go_num,rfl,by omega,by omega,all_take HA.out HGK.out HQ.out,HB3.out⟩
     case measure=>simp[intOf];omega
   ·obtain rfl:k=xs.length:=by omega
    go_wp2
    go_ret
    exact⟨m,rfl,by omega,by omega,fun _=>⟨by omega,all_full HA.out⟩,HB.out⟩
theorem c_szNode (x:GNode) (v3:Value) (n:Int) (w:World) (h0:0≤n) (h1:n≤1048576) (hg:x.good) (r3:T.rd w (T.ints 2 x.zG) [v3]):
  Calls Tryz.prog 124 #[.agg #[.int .i64 x.zC,.int .i64 x.fA,.int .i64 x.fB,v3],.int .i64 n] w fun e w'=> ∃ m:Int,e= .returned (.int .i64 m)∧ -1≤m∧m≤n∧(0≤m→x.small)∧Below w.heap.size w w':=by
 have R3:=hide r3
 clear r3
 have HG:=hide hg;clear hg
 go_enter Tryz.func124,Tryz.ntmps124
 have HB0:=hide (show Below w.heap.size w (w.alloc (.cells #[.int .i64 x.zC,.int .i64 x.fA,.int .i64 x.fB,v3] 180)) from(Below.refl _ _).alloc (Nat.le_refl _) _)
 have HK0:=hide (Bk.born w 180 #[.int .i64 x.zC,.int .i64 x.fA,.int .i64 x.fB,v3])
 go_wp2_with fail
 refine(c_szInt64S _ x.zG (n) _ (by omega) (by omega) (T.yD R3.out HB0.out)).mono ?_;rintro e w1 ⟨m1,rfl,a1,b1,s1,hb⟩
 have HK1:=hide (HK0.out.below hb (by simp));have HB1:=hide (yH HB0.out (by simp) hb);clear hb
 have k1:=HK1.out.cell
 rcases Int.lt_or_le m1 0 with hn1|hp1
 ·go_wp2
  go_ret
  exact⟨-1,rfl,by omega,by omega,fun h=>by omega,HB1.out⟩
 have S1:=hide (s1 hp1);clear s1
 go_wp2
 go_ret
 exact⟨m1,rfl,by omega,by omega,fun _=>S1.out,HB1.out⟩
theorem c_szNodeS (v:Value) (xs:List GNode) (n:Int) (w:World) (h0:0≤n) (h1:n≤1048576) (hg: ∀ y ∈ xs,GNode.good y) (hr:T.rd w (T.sl 160 4 (xs.map GNode.t)) [v]):
  Calls Tryz.prog 88 #[v,.int .i64 n] w fun e w'=> ∃ m:Int,e= .returned (.int .i64 m)∧ -1≤m∧m≤n∧(0≤m→smL GNode.small xs)∧Below w.heap.size w w':=by
 obtain⟨A,cap,rfl,hl,hc,hx⟩:=T.yM hr
 rw[List.length_map] at hl ⊢
 have HX:=hide hx;clear hx hr
 have HG:=hide hg;clear hg
 by_cases h4:n<xs.length
 ·go_enter Tryz.func88,Tryz.ntmps88
  go_wp2
  go_ret
  exact⟨-1,rfl,by omega,by omega,fun h=>by omega,Below.refl _ _⟩
 ·go_enter Tryz.func88,Tryz.ntmps88
  go_wp2
  go_loopw [1,5] (fun t iv wr=> ∃ (k:Nat) (m:Int),k≤xs.length∧iv= .int .i64 (k:Int)∧t= .int .i64 m∧0≤m∧m≤n - xs.length∧(∀ y ∈ xs.take k,(GNode.small) y)∧Below w.heap.size w wr) (fun _ iv _=>xs.length - (intOf iv).toNat)
  case atStart=>exact⟨0,_,Nat.zero_le _,rfl,rfl,by omega,by omega,by simp,Below.refl _ _⟩
  case round=>
   obtain⟨k,m,hk,rfl,rfl,hm0,hm1,ha,hb⟩:=hrel
   have HA:=hide ha;have HB:=hide hb;clear ha hb
   by_cases hlt:k<xs.length
   ·have hgk:=List.getElem?_eq_getElem hlt
    obtain⟨b,off,cs,rfl,hbw,hcs,hcell⟩:=HX.out k (GNode.t xs[k]) (by rw[List.getElem?_map,hgk];rfl)
    have hgd:=HG.out _ (List.getElem_mem hlt)
    generalize xs[k]=x at *
    have HGK:=hide hgk;clear hgk
    obtain⟨v3,rfl,hR3⟩:=GNode.yM (show T.rds _ _ _ by simpa only[GNode.t,T.rd] using hcs)
    have d0:=(HB.out.cell hbw).trans (hcell 0 (.int .i64 x.zC) rfl)
    have d1:=(HB.out.cell hbw).trans (hcell 1 (.int .i64 x.fA) rfl)
    have d2:=(HB.out.cell hbw).trans (hcell 2 (.int .i64 x.fB) rfl)
    have d3:=(HB.out.cell hbw).trans (hcell 3 (v3) rfl)
    rw[show off+(k * 4+0)=off+k * 4 by omega] at d0
    rw[show off+(k * 4+1)=off+k * 4+1 by omega] at d1
    rw[show off+(k * 4+2)=off+k * 4+2 by omega] at d2
    rw[show off+(k * 4+3)=off+k * 4+3 by omega] at d3
    have R3:=hide (T.yD hR3 HB.out);clear hR3
    clear hcs hcell
    go_wp2_with fail
    refine(c_szNode x v3 m _ hm0 (by omega) hgd R3.out).mono ?_;rintro e w3 ⟨q,rfl,hq0,hq1,hq2,hb3⟩
    have HB3:=hide (yH HB.out HB.out.size hb3);clear hb3
    rcases Int.lt_or_le q 0 with hneg|hpos
    ·have hq:=hq2;clear hq2
     go_wp2
     go_ret
     exact⟨-1,rfl,by omega,by omega,fun h=>by omega,HB3.out⟩
    ·have HQ:=hide (hq2 hpos);clear hq2
     go_wp2
     go_roundw
     case rel=>exact⟨k+1,q,by omega,by go_num,rfl,by omega,by omega,all_take HA.out HGK.out HQ.out,HB3.out⟩
     case measure=>simp[intOf];omega
   ·obtain rfl:k=xs.length:=by omega
    go_wp2
    go_ret
    exact⟨m,rfl,by omega,by omega,fun _=>⟨by omega,all_full HA.out⟩,HB.out⟩
theorem c_szPatch (x:GPatch) (v1:Value) (v2:Value) (v3:Value) (n:Int) (w:World) (h0:0≤n) (h1:n≤1048576) (hg:x.good) (r1:T.rd w (T.sl 24 1 (x.zN.map (T.ints 2))) [v1]) (r2:T.rd w (T.sl 160 4 (x.zD.map GNode.t)) [v2]) (r3:T.rd w (T.ints 2 x.zK) [v3]):
  Calls Tryz.prog 45 #[.agg #[.int .i64 x.zJ,v1,v2,v3],.int .i64 n] w fun e w'=> ∃ m:Int,e= .returned (.int .i64 m)∧ -1≤m∧m≤n∧(0≤m→x.small)∧Below w.heap.size w w':=by
 have R1:=hide r1
 have R2:=hide r2
 have R3:=hide r3
 clear r1 r2 r3
 have HG:=hide hg;clear hg
 go_enter Tryz.func45,Tryz.ntmps45
 have HB0:=hide (show Below w.heap.size w (w.alloc (.cells #[.int .i64 x.zJ,v1,v2,v3] 88)) from(Below.refl _ _).alloc (Nat.le_refl _) _)
 have HK0:=hide (Bk.born w 88 #[.int .i64 x.zJ,v1,v2,v3])
 go_wp2_with fail
 refine(c_szInt64SS _ x.zN (n) _ (by omega) (by omega) (T.yD R1.out HB0.out)).mono ?_;rintro e w1 ⟨m1,rfl,a1,b1,s1,hb⟩
 have HK1:=hide (HK0.out.below hb (by simp));have HB1:=hide (yH HB0.out (by simp) hb);clear hb
 have k1:=HK1.out.cell
 rcases Int.lt_or_le m1 0 with hn1|hp1
 ·go_wp2
  go_ret
  exact⟨-1,rfl,by omega,by omega,fun h=>by omega,HB1.out⟩
 have S1:=hide (s1 hp1);clear s1
 go_wp2_with fail
 refine(c_szNodeS _ x.zD (m1) _ (by omega) (by omega) (HG.out.2.2.1) (T.yD R2.out HB1.out)).mono ?_;rintro e w2 ⟨m2,rfl,a2,b2,s2,hb⟩
 have HK2:=hide (HK1.out.below hb HK1.out.lt);have HB2:=hide (yH HB1.out HB1.out.size hb);clear hb
 have k2:=HK2.out.cell
 rcases Int.lt_or_le m2 0 with hn2|hp2
 ·go_wp2
  go_ret
  exact⟨-1,rfl,by omega,by omega,fun h=>by omega,HB2.out⟩
 have S2:=hide (s2 hp2);clear s2
 go_wp2_with fail
 refine(c_szInt64S _ x.zK (m2) _ (by omega) (by omega) (T.yD R3.out HB2.out)).mono ?_;rintro e w3 ⟨m3,rfl,a3,b3,s3,hb⟩
 have HK3:=hide (HK2.out.below hb HK2.out.lt);have HB3:=hide (yH HB2.out HB2.out.size hb);clear hb
 have k3:=HK3.out.cell
 rcases Int.lt_or_le m3 0 with hn3|hp3
 ·go_wp2
  go_ret
  exact⟨-1,rfl,by omega,by omega,fun h=>by omega,HB3.out⟩
 have S3:=hide (s3 hp3);clear s3
 go_wp2
 go_ret
 exact⟨m3,rfl,by omega,by omega,fun _=>⟨S1.out,S2.out,S3.out⟩,HB3.out⟩
theorem c_szSendS (v:Value) (xs:List GSend) (n:Int) (w:World) (h0:0≤n) (h1:n≤1048576) (hr:T.rd w (T.sl 156 2 (xs.map GSend.t)) [v]):
  Calls Tryz.prog 125 #[v,.int .i64 n] w fun e w'=> ∃ m:Int,e= .returned (.int .i64 m)∧ -1≤m∧m≤n∧(0≤m→xs.length≤1048576)∧Below w.heap.size w w':=by
 obtain⟨A,cap,rfl,hl,hc,hx⟩:=T.yM hr
 rw[List.length_map] at hl ⊢
 clear hr hx
 by_cases h4:n<xs.length
 ·go_enter Tryz.func125,Tryz.ntmps125
  go_wp2
  go_ret
  exact⟨-1,rfl,by omega,by omega,fun h=>by omega,Below.refl _ _⟩
 ·go_enter Tryz.func125,Tryz.ntmps125
  go_wp2
  go_ret
  exact⟨_,rfl,by omega,by omega,fun h=>by omega,Below.refl _ _⟩
theorem c_szStrip (x:GStrip) (v2:Value) (n:Int) (w:World) (h0:0≤n) (h1:n≤1048576) (hg:x.good) (r2:T.rd w (T.sl 156 2 (x.yA.map GSend.t)) [v2]):
  Calls Tryz.prog 89 #[.agg #[.string x.zV,.int .i64 x.zT,v2],.int .i64 n] w fun e w'=> ∃ m:Int,e= .returned (.int .i64 m)∧ -1≤m∧m≤n∧(0≤m→x.small)∧Below w.heap.size w w':=by
 have R2:=hide r2
 clear r2
 have hgs0:x.zV.size≤9223372036854775807:=hg.1
 have HG:=hide hg;clear hg
 go_enter Tryz.func89,Tryz.ntmps89
 have HB0:=hide (show Below w.heap.size w (w.alloc (.cells #[.string x.zV,.int .i64 x.zT,v2] 148)) from(Below.refl _ _).alloc (Nat.le_refl _) _)
 have HK0:=hide (Bk.born w 148 #[.string x.zV,.int .i64 x.zT,v2])
 by_cases hs0:n<x.zV.size
 ·go_wp2
  go_ret
  exact⟨-1,rfl,by omega,by omega,fun h=>by omega,(by first|exact HB0.out|exact undrew HB0.out|exact Below.drew HB0.out|exact Below.drew (undrew HB0.out)|exact undrewN HB0.out|exact below_drewN HB0.out _)⟩
 go_wp2_with fail
 refine(c_szSendS _ x.yA (n - x.zV.size) _ (by omega) (by omega) (T.yD R2.out HB0.out)).mono ?_;rintro e w1 ⟨m1,rfl,a1,b1,s1,hb⟩
 have HK1:=hide (HK0.out.below hb (by simp));have HB1:=hide (yH HB0.out (by simp) hb);clear hb
 have k1:=HK1.out.cell
 rcases Int.lt_or_le m1 0 with hn1|hp1
 ·go_wp2
  go_ret
  exact⟨-1,rfl,by omega,by omega,fun h=>by omega,HB1.out⟩
 have S1:=hide (s1 hp1);clear s1
 go_wp2
 go_ret
 exact⟨m1,rfl,by omega,by omega,fun _=>⟨by omega,S1.out⟩,HB1.out⟩
theorem c_szStripS (v:Value) (xs:List GStrip) (n:Int) (w:World) (h0:0≤n) (h1:n≤1048576) (hg: ∀ y ∈ xs,GStrip.good y) (hr:T.rd w (T.sl 117 3 (xs.map GStrip.t)) [v]):
  Calls Tryz.prog 46 #[v,.int .i64 n] w fun e w'=> ∃ m:Int,e= .returned (.int .i64 m)∧ -1≤m∧m≤n∧(0≤m→smL GStrip.small xs)∧Below w.heap.size w w':=by
 obtain⟨A,cap,rfl,hl,hc,hx⟩:=T.yM hr
 rw[List.length_map] at hl ⊢
 have HX:=hide hx;clear hx hr
 have HG:=hide hg;clear hg
 by_cases h4:n<xs.length
 ·go_enter Tryz.func46,Tryz.ntmps46
  go_wp2
  go_ret
  exact⟨-1,rfl,by omega,by omega,fun h=>by omega,Below.refl _ _⟩
 ·go_enter Tryz.func46,Tryz.ntmps46
  go_wp2
  go_loopw [1,5] (fun t iv wr=> ∃ (k:Nat) (m:Int),k≤xs.length∧iv= .int .i64 (k:Int)∧t= .int .i64 m∧0≤m∧m≤n - xs.length∧(∀ y ∈ xs.take k,(GStrip.small) y)∧Below w.heap.size w wr) (fun _ iv _=>xs.length - (intOf iv).toNat)
  case atStart=>exact⟨0,_,Nat.zero_le _,rfl,rfl,by omega,by omega,by simp,Below.refl _ _⟩
  case round=>
   obtain⟨k,m,hk,rfl,rfl,hm0,hm1,ha,hb⟩:=hrel
   have HA:=hide ha;have HB:=hide hb;clear ha hb
   by_cases hlt:k<xs.length
   ·have hgk:=List.getElem?_eq_getElem hlt
    obtain⟨b,off,cs,rfl,hbw,hcs,hcell⟩:=HX.out k (GStrip.t xs[k]) (by rw[List.getElem?_map,hgk];rfl)
    have hgd:=HG.out _ (List.getElem_mem hlt)
    generalize xs[k]=x at *
    have HGK:=hide hgk;clear hgk
    obtain⟨v2,rfl,hR2⟩:=GStrip.yM (show T.rds _ _ _ by simpa only[GStrip.t,T.rd] using hcs)
    have d0:=(HB.out.cell hbw).trans (hcell 0 (.string x.zV) rfl)
    have d1:=(HB.out.cell hbw).trans (hcell 1 (.int .i64 x.zT) rfl)
    have d2:=(HB.out.cell hbw).trans (hcell 2 (v2) rfl)
    rw[show off+(k * 3+0)=off+k * 3 by omega] at d0
    rw[show off+(k * 3+1)=off+k * 3+1 by omega] at d1
    rw[show off+(k * 3+2)=off+k * 3+2 by omega] at d2
    have R2:=hide (T.yD hR2 HB.out);clear hR2
    clear hcs hcell
    go_wp2_with fail
    refine(c_szStrip x v2 m _ hm0 (by omega) hgd R2.out).mono ?_;rintro e w3 ⟨q,rfl,hq0,hq1,hq2,hb3⟩
    have HB3:=hide (yH HB.out HB.out.size hb3);clear hb3
    rcases Int.lt_or_le q 0 with hneg|hpos
    ·have hq:=hq2;clear hq2
     go_wp2
     go_ret
     exact⟨-1,rfl,by omega,by omega,fun h=>by omega,HB3.out⟩
    ·have HQ:=hide (hq2 hpos);clear hq2
     go_wp2
     go_roundw
     case rel=>exact⟨k+1,q,by omega,by go_num,rfl,by omega,by omega,all_take HA.out HGK.out HQ.out,HB3.out⟩
     case measure=>simp[intOf];omega
   ·obtain rfl:k=xs.length:=by omega
    go_wp2
    go_ret
    exact⟨m,rfl,by omega,by omega,fun _=>⟨by omega,all_full HA.out⟩,HB.out⟩
theorem c_szMixer (x:GMixer) (v0:Value) (n:Int) (w:World) (h0:0≤n) (h1:n≤1048576) (hg:x.good) (r0:T.rd w (T.sl 117 3 (x.zH.map GStrip.t)) [v0]):
  Calls Tryz.prog 17 #[.agg #[v0],.int .i64 n] w fun e w'=> ∃ m:Int,e= .returned (.int .i64 m)∧ -1≤m∧m≤n∧(0≤m→x.small)∧Below w.heap.size w w':=by
 have R0:=hide r0
 clear r0
 have HG:=hide hg;clear hg
 go_enter Tryz.func17,Tryz.ntmps17
 have HB0:=hide (show Below w.heap.size w (w.alloc (.cells #[v0] 28)) from(Below.refl _ _).alloc (Nat.le_refl _) _)
 have HK0:=hide (Bk.born w 28 #[v0])
 go_wp2_with fail
 refine(c_szStripS _ x.zH (n) _ (by omega) (by omega) (HG.out) (T.yD R0.out HB0.out)).mono ?_;rintro e w1 ⟨m1,rfl,a1,b1,s1,hb⟩
 have HK1:=hide (HK0.out.below hb (by simp));have HB1:=hide (yH HB0.out (by simp) hb);clear hb
 have k1:=HK1.out.cell
 rcases Int.lt_or_le m1 0 with hn1|hp1
 ·go_wp2
  go_ret
  exact⟨-1,rfl,by omega,by omega,fun h=>by omega,HB1.out⟩
 have S1:=hide (s1 hp1);clear s1
 go_wp2
 go_ret
 exact⟨m1,rfl,by omega,by omega,fun _=>S1.out,HB1.out⟩
end Go.Proofs.YtbgedljbgkcpiaaGreatDoor
end
section
namespace Go.Proofs.YtbgedljbgkcpiaaGreatDoor
open Go.RowKit
theorem T.rds_below {w w':World} {x:List T} {cs:List Value} (h:T.rds w x cs) (hb:Below w.heap.size w w'):T.rds w' x cs:=T.rds_keep hb.size hb.block x cs h
theorem b_toSession (x:GSession) (cs:List Value) (w:World) (hs:x.small) (h:T.rds w x.fs cs):Calls Tryz.prog 6 #[.agg cs.toArray] w fun e w'=> ∃ ds,e= .returned (.agg ds.toArray)∧T.rds w' x.fs ds∧Below w.heap.size w w':=by
 obtain⟨v1,v2,v3,v4,v5,rfl,h1,h2,h3,h4,h5⟩:=GSession.yM h
 refine(c_toSession x _ _ _ _ _ w hs h1 h2 h3 h4 h5).mono ?_
 rintro e w' ⟨u1,F1,u2,F2,u3,F3,u4,F4,u5,F5,rfl,o1,o2,o3,o4,o5,sg,hb⟩
 exact⟨_,rfl,GSession.rd_mk (T.ow_rd _ _ _ o1) (T.ow_rd _ _ _ o2) (T.ow_rd _ _ _ o3) (T.ow_rd _ _ _ o4) (T.ow_rd _ _ _ o5),hb⟩
theorem b_eqSession (x:GSession) (cs ds:List Value) (w:World) (h:T.rds w x.fs cs) (g:T.rds w x.fs ds):Calls Tryz.prog 9 #[.agg cs.toArray,.agg ds.toArray] w fun e w'=>e= .returned (.bool true)∧Below w.heap.size w w':=by
 obtain⟨v1,v2,v3,v4,v5,rfl,h1,h2,h3,h4,h5⟩:=GSession.yM h
 obtain⟨u1,u2,u3,u4,u5,rfl,k1,k2,k3,k4,k5⟩:=GSession.yM g
 exact c_eqSession x _ _ _ _ _ _ _ _ _ _ w h1 h2 h3 h4 h5 k1 k2 k3 k4 k5
end Go.Proofs.YtbgedljbgkcpiaaGreatDoor
end
section
namespace Go.Proofs.YtbgedljbgkcpiaaGreatDoor
open Go.RowKit
noncomputable def tf (p:Prop):Bool:= @decide p (Classical.propDecidable p)
theorem yV {p:Prop} (h:p):tf p=true:=by unfold tf;exact @decide_eq_true p (Classical.propDecidable p) h
theorem yU {p:Prop} (h: ¬ p):tf p=false:=by unfold tf;exact @decide_eq_false p (Classical.propDecidable p) h
theorem tf_iff {p q:Prop} (h:p↔q):tf p=tf q:=by rw[propext h]
theorem tf_dec {p:Prop} [d:Decidable p]:tf p=decide p:=by
 by_cases h:p
 ·rw[yV h,decide_eq_true h]
 ·rw[yU h,decide_eq_false h]
/-- The first k elements are right; all are. -/
def Upto {α:Type} (xs:List α) (Q:Nat→α→Prop) (k:Nat):Prop:= ∀ i x,i<k→xs[i]?=some x→Q i x
def Each {α:Type} (xs:List α) (Q:Nat→α→Prop):Prop:= ∀ i x,xs[i]?=some x→Q i x
section
variable {α:Type} {xs:List α} {Q:Nat→α→Prop} {k:Nat} {x:α}
theorem Upto.zero:Upto xs Q 0:=fun i _ h=>absurd h (Nat.not_lt_zero i)
theorem Upto.step (h:Upto xs Q k) (hx:xs[k]?=some x) (q:Q k x):Upto xs Q (k+1):=by
 intro i y hi hy
 by_cases e:i=k
 ·subst e
  rw[hx] at hy
  injection hy with hy
  subst hy
  exact q
 ·exact h i y (by omega) hy
theorem Upto.all (h:Upto xs Q k) (hk:xs.length≤k):Each xs Q:=fun i y hy=>h i y (Nat.lt_of_lt_of_le (List.getElem?_eq_some_iff.1 hy).1 hk) hy
theorem Each.of_mem {P:α→Prop} :Each xs (fun _ y=>P y)↔ ∀ y ∈ xs,P y:=by
 constructor
 ·intro h y hy
  obtain⟨i,hi,rfl⟩:=List.mem_iff_getElem.1 hy
  exact h i _ (List.getElem?_eq_getElem hi)
 ·intro h i y hy
  exact h y (List.mem_of_getElem? hy)
end
/-- Numbers from 0 on and below n. -/
def Idx (l:List Int) (n:Int):Prop:=Each l fun _ x=>0≤x∧x≤n - 1
structure ClipOk (c:GClip):Prop where
 source:inB c.zS 0 5=true
 length:inB c.zE 1 4000=true
 from_:inB c.zG 0 (4000 - c.zE)=true
 at_:inB c.yB 0 (4000 - c.zE)=true
 gain:Smp c.zQ
structure TrackOk (t:GTrack):Prop where
 clips:Each t.zR fun i c=>ClipOk c∧ ∀ p,0<i→t.zR[i - 1]?=some p→p.yB≤c.yB
 few:t.zR.length≤12
def befS (l:List GSend) (strip:Int) (i:Nat):Int:=if i=0 then strip else (l.getD (i - 1) ⟨0,0⟩).yC
structure SendsOk (l:List GSend) (strip n:Int):Prop where
 each:Each l fun i x=>inB x.yC (befS l strip i+1) (n - 1)=true∧Smp x.zQ
 last:strip=n - 1→l.length=0
 few:strip≠n - 1→1≤l.length∧l.length≤4
def smallN (c:Nat):Prop:=97≤c∧c≤122
def digitN (c:Nat):Prop:=48≤c∧c≤57
structure NameOk (s:ByteArray):Prop where
 some_:1≤s.size
 few:s.size≤10
 each: ∀ i,i<s.size→smallN (bA s i)∨(digitN (bA s i)∧i≠0)
structure StripOk (x:GStrip) (i n:Int):Prop where
 name:NameOk x.zV
 latency:inB x.zT 0 32=true
 sends:SendsOk x.yA i n
structure MixerOk (m:GMixer):Prop where
 some_:1≤m.zH.length
 few:m.zH.length≤8
 each:Each m.zH fun i x=>StripOk x (i:Int) (m.zH.length:Int)∧ ∀ j y,j<i→m.zH[j]?=some y→y.zV≠x.zV
structure SourcesOk (ss:List (List Int)):Prop where
 each:Each ss fun _ l=>sigB l=true
 few:ss.length≤6
structure TablesOk (ts:List (List Int)):Prop where
 each:Each ts fun _ t=>(t.length=2∨t.length=4∨t.length=8∨t.length=16)∧smpB t=true
 few:ts.length≤4
/-- What is known of a kind of nodes: its inputs, the range of A (none if the first is greater), whether it has B. -/
structure Knd where
 inputs:Int
 low:Int
 high:Int
 linear:Bool
 hasB:Bool
def kndL:List Knd:= [⟨0,0,3,true,false⟩,⟨0,-2147483648,2147483647,false,false⟩,⟨2,1,0,true,false⟩,⟨2,1,0,true,false⟩,⟨1,-2147483648,2147483647,true,false⟩,⟨1,1,16,true,false⟩,⟨1,1,0,true,false⟩,⟨1,1,0,true,false⟩,⟨2,1,0,false,false⟩,⟨1,0,31,false,false⟩,⟨1,0,2147483647,false,false⟩,⟨1,-2147483648,2147483647,false,false⟩,⟨1,0,3,false,false⟩,⟨0,-2147483648,2147483647,false,false⟩,⟨3,1,0,false,false⟩,⟨2,1,0,false,false⟩,⟨1,-2147483648,2147483647,true,true⟩]
def kndF (k:Int):Knd:=kndL.getD (k - 1).toNat ⟨0,0,0,false,false⟩
structure NodeOk (x:GNode) (tables:Int):Prop where
 kind:inB x.zC 1 17=true
 a:if (kndF x.zC).low≤(kndF x.zC).high then inB x.fA (kndF x.zC).low (kndF x.zC).high=true else x.fA=0
 b:if (kndF x.zC).hasB then inB x.fB 1 16=true else x.fB=0
 from_:Each x.zG fun _ f=>inB f 0 23=true
 arity:(x.zG.length:Int)=(kndF x.zC).inputs
 table:x.zC=13→x.fA<tables
structure FormedOk (p:GPatch):Prop where
 inputs:inB p.zJ 0 4=true
 tables:TablesOk p.zN
 few:p.zD.length≤24
 outs:p.zK.length≤4
 outputs:Idx p.zK (p.zD.length:Int)
 nodes:Each p.zD fun _ x=>NodeOk x (p.zN.length:Int)∧Idx x.zG (p.zD.length:Int)∧(x.zC=1→x.fA<p.zJ)
/-- The nodes that a node waits for. -/
def waitsF (x:GNode):List Int:=if x.zC=6 then [] else x.zG
def readyB (nodes:List GNode) (out:List Int) (i:Nat):Bool:= !out.contains (i:Int) && ((nodes[i]?).map fun x=>(waitsF x).all fun f=>out.contains f).getD false
def nextF (nodes:List GNode) (out:List Int):Option Nat:=(List.range nodes.length).find? (readyB nodes out)
/-- The order in which nodes are computed: the first steps. -/
def yW (nodes:List GNode):Nat→List Int
 |0=> []
 |k+1=>match nextF nodes (yW nodes k) with
  |some i=>yW nodes k++ [(i:Int)]
  |none=>yW nodes k
def orderF (nodes:List GNode):List Int:=yW nodes nodes.length
theorem ordNodes_stop {nodes:List GNode} {k:Nat} (h:nextF nodes (yW nodes k)=none): ∀ m,yW nodes (k+m)=yW nodes k:=by
 intro m
 induction m with
 |zero=>rfl
 |succ m ih=>
  rw[←Nat.add_assoc]
  simp only[yW]
  rw[ih,h]
theorem nextF_some {nodes:List GNode} {out:List Int} {i:Nat} (hi:i<nodes.length) (hr:readyB nodes out i=true) (hb: ∀ j,j<i→readyB nodes out j=false):nextF nodes out=some i:=by
 unfold nextF
 rw[List.find?_eq_some_iff_getElem]
 refine⟨hr,i,by simpa using hi,by simp,fun j hj=>by simp[hb j hj]⟩
theorem nextF_none {nodes:List GNode} {out:List Int} (hb: ∀ j,j<nodes.length→readyB nodes out j=false):nextF nodes out=none:=by
 unfold nextF
 rw[List.find?_eq_none]
 intro j hj
 simp[hb j (by simpa using hj)]
theorem nextF_inv {nodes:List GNode} {out:List Int} {i:Nat} (h:nextF nodes out=some i):i<nodes.length∧readyB nodes out i=true:=by
 unfold nextF at h
 exact⟨by simpa using List.mem_of_find?_eq_some h,List.find?_some h⟩
theorem ordNodes_in {nodes:List GNode} : ∀ k,(yW nodes k).Nodup∧ ∀ x ∈ yW nodes k,0≤x∧x<(nodes.length:Int)
 |0=>by simp[yW]
 |k+1=>by
  obtain⟨h1,h2⟩:=ordNodes_in (nodes:=nodes) k
  simp only[yW]
  split
  ·next i h=>
   obtain⟨hi,hr⟩:=nextF_inv h
   have hn:(i:Int) ∉ yW nodes k:=by
    simp only[readyB,Bool.and_eq_true,Bool.not_eq_true'] at hr
    simpa using hr.1
   refine⟨?_,?_⟩
   ·rw[List.nodup_append]
    refine⟨h1,by simp,fun a ha b hb e=>?_⟩
    simp at hb
    subst hb e
    exact hn ha
   ·intro x hx
    rcases List.mem_append.1 hx with hx|hx
    ·exact h2 x hx
    ·simp at hx;subst hx;omega
  ·exact⟨h1,h2⟩
theorem nodup_range: ∀ (n:Nat) (l:List Nat),l.Nodup→(∀ x ∈ l,x<n)→l.length≤n
 |0,[],_,_=>Nat.le_refl _
 |0,x :: _,_,h=>absurd (h x (by simp)) (by omega)
 |n+1,l,h1,h2=>by
  by_cases hm:n ∈ l
  ·have h3:=nodup_range n (l.erase n) (h1.erase n) (fun x hx=>by
    have:=(h1.mem_erase_iff).1 hx
    have h4:=h2 x this.2
    have h5:=this.1
    omega)
   rw[List.length_erase_of_mem hm] at h3
   omega
  ·have h3:=nodup_range n l h1 (fun x hx=>by
    have h4:=h2 x hx
    have:x≠n:=fun e=>hm (e ▸ hx)
    omega)
   omega
theorem nodup_bound {n:Nat} {l:List Int} (h1:l.Nodup) (h2: ∀ x ∈ l,0≤x∧x<(n:Int)):l.length≤n:=by
 have h3:(l.map Int.toNat).Nodup:=by
  rw[List.Nodup,List.pairwise_map]
  refine List.Pairwise.imp_of_mem ?_ h1
  intro a b ha hb hab e
  have:=h2 a ha
  have:=h2 b hb
  omega
 have:=nodup_range n _ h3 (fun x hx=>by
  obtain⟨y,hy,rfl⟩:=List.mem_map.1 hx
  have:=h2 y hy
  omega)
 simpa using this
theorem ordNodes_cap {nodes:List GNode} (k:Nat):(yW nodes k).length≤nodes.length:=nodup_bound (ordNodes_in k).1 (ordNodes_in k).2
/-- Where the order stops, it has stopped for good. -/
theorem orderF_of_stop {nodes:List GNode} {k:Nat} (h:nextF nodes (yW nodes k)=none) (hk:(yW nodes k).length=k):orderF nodes=yW nodes k:=by
 have hc:=ordNodes_cap (nodes:=nodes) k
 unfold orderF
 rw[show nodes.length=k+(nodes.length - k) by omega]
 exact ordNodes_stop h _
theorem ordNodes_snoc {nodes:List GNode} {k i:Nat} (h:nextF nodes (yW nodes k)=some i):yW nodes (k+1)=yW nodes k++ [(i:Int)]:=by
 simp only[yW,h]
structure PatchOk (p:GPatch):Prop where
 formed:FormedOk p
 order:(orderF p.zD).length=p.zD.length
def noPatch:GPatch:=⟨0,[],[],[]⟩
def EffectOk (p:GPatch):Prop:=p=noPatch∨(PatchOk p∧p.zJ=1∧p.zK.length=1)
structure SessionOk (s:GSession):Prop where
 length:inB s.zE 0 1000=true
 sources:SourcesOk s.zM
 few:s.zO.length≤6
 mixer:MixerOk s.zW
 feed:s.zU.length=s.zO.length
 feeds:Idx s.zU (s.zW.zH.length:Int)
 effect:s.zP.length=s.zW.zH.length
 tracks:Each s.zO fun _ t=>TrackOk t∧Each t.zR fun _ c=>c.zS<(s.zM.length:Int)
 effects:Each s.zP fun _ p=>EffectOk p
end Go.Proofs.YtbgedljbgkcpiaaGreatDoor
end
