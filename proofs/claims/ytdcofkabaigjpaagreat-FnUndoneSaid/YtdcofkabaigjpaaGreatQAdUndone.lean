/- Contracts: what is valid, by the program: lists, clips, names, sends. Contracts: check values, two bytes, the head of a store. Contracts: what is valid, by the program: names, sends, mixers, tracks. Contracts: what is valid, by the program: tracks, mixers. Contracts: what is valid, by the program: mixers. Contracts: what is valid, by the program: kinds, nodes. -/
import Derived.Test.YtdcofkabaigjpaaGreatQAcUndone
import Derived.Deep.RegionHeld3
import Derived.Deep.RegionWith
import Derived.Maps.Own
import Derived.Test.YtdcofkabaigjpaaGreatQAbUndone
import Derived.Maps.OwnOps
import Derived.Maps.Views
set_option linter.unusedVariables false
set_option linter.unusedSimpArgs false
set_option maxHeartbeats 2000000
set_option maxRecDepth 20000
namespace Go.Proofs.YtdcofkabaigjpaaGreat
section
open Go.RowKit
theorem xI {n a b:Int} :inB n a b=true↔a≤n∧n≤b:=by simp[inB]
theorem inB_not {n a b:Int} (h:inB n a b=false) (k:a≤n∧n≤b):False:=by simp[inB] at h;omega
theorem wO (v:Value) (xs:List Int) (n:Int) (w:World) (hr:RdI w v xs) (h0:0≤n) (h1:n≤9223372036854775807):Calls Tryz.prog 50 #[v,.int .i64 n] w fun e w'=>e= .returned (.bool (tf (Idx xs n)))∧w=w':=by
 obtain⟨A,cap,rfl,hl,hc,hx⟩:=hr.open_;have HX:=xL hx;clear hx hr
 go_enter Tryz.func50,Tryz.ntmps50
 go_wp2
 go_loop [9] (fun i=> ∃ k:Nat,k≤xs.length∧i= .int .i64 k∧vF xs (fun _ x=>0≤x∧x≤n - 1) k) (fun i=>xs.length - (intOf i).toNat)
 case atStart=>exact⟨0,Nat.zero_le _,rfl,vF.zero⟩
 case round=>
  obtain⟨k,hk,rfl,hs⟩:=hrel;have HS:=xL hs;clear hs;by_cases hlt:k<xs.length
  ·have hgk:=gE hlt
   obtain⟨b,off,rfl,hb,hcell⟩:=HX.out k xs[k] hgk;generalize xs[k]=x at *;have HG:=xL hgk;clear hgk;by_cases hq:inB x 0 (n - 1)=true
   ·go_wp2_with (go_at_call 47;refine(xU _ _ _ _).mono ?_;rintro e w' ⟨rfl,rfl⟩)
    go_round
    case rel=>exact⟨k+1,by omega,by go_num,HS.out.step HG.out (xI.1 hq)⟩
    case measure=>simp[intOf];omega
   ·have hq':inB x 0 (n - 1)=false:=by simpa using hq
    clear hq;go_wp2_with (go_at_call 47;refine(xU _ _ _ _).mono ?_;rintro e w' ⟨rfl,rfl⟩)
    go_ret
    exact⟨yK (xE (fun hh=>inB_not hq' (hh k x HG.out))).symm,rfl⟩
  ·have hall:=xL (HS.out.all zM)
   go_wp2;go_ret
   exact⟨yK ((xG hall.out).symm),rfl⟩
theorem c_areSignals (v:Value) (xs:List (List Int)) (w:World) (hr:T.rd w (T.sl 26 1 (xs.map (T.ints 2))) [v]):Calls Tryz.prog 85 #[v] w fun e w'=>e= .returned (.bool (tf (Each xs fun _ l=>sigB l=true)))∧w=w':=by
 obtain⟨A,cap,rfl,hl,hc,hx⟩:=T.yQ hr;have HX:=xL hx;clear hx hr
 go_enter Tryz.func85,Tryz.ntmps85
 go_wp2
 go_loop [7] (fun i=> ∃ k:Nat,k≤xs.length∧i= .int .i64 k∧vF xs (fun _ l=>sigB l=true) k) (fun i=>xs.length - (intOf i).toNat)
 case atStart=>exact⟨0,Nat.zero_le _,rfl,vF.zero⟩
 case round=>
  obtain⟨k,hk,rfl,hs⟩:=hrel;have HS:=xL hs;clear hs;by_cases hlt:k<xs.length
  ·have hgk:=gE hlt
   obtain⟨b,off,cs,rfl,hb,hcs,hcell⟩:=HX.out k xs[k] hgk;generalize xs[k]=l at *;have HG:=xL hgk;clear hgk;obtain⟨v3,rfl⟩:=T.rd_one hcs;have d0:=hcell 0 v3 rfl;rw[Nat.mul_one,Nat.add_zero] at d0;have R:=xL (T.yZ.1 hcs);clear hcs hcell;obtain⟨A3,c3,rfl,l3,m3,x3⟩:=R.out.open_;clear x3;by_cases hq:sigB l=true
   ·go_wp2_with (go_at_call 122;refine(c_isSignal _ l _ R.out).mono ?_;rintro e w' ⟨rfl,rfl⟩)
    go_round
    case rel=>exact⟨k+1,by omega,by go_num,HS.out.step HG.out hq⟩
    case measure=>simp[intOf];omega
   ·have hq':sigB l=false:=by simpa using hq
    clear hq;go_wp2_with (go_at_call 122;refine(c_isSignal _ l _ R.out).mono ?_;rintro e w' ⟨rfl,rfl⟩)
    go_ret
    exact⟨yK (xE (fun hh=>by rw[hh k l HG.out] at hq';exact absurd hq' (by simp))).symm,rfl⟩
  ·have hall:=xL (HS.out.all zM);clear HS
   go_wp2;go_ret
   exact⟨yK (xG hall.out).symm,rfl⟩
theorem uB (v:Value) (xs:List (List Int)) (w:World) (hr:T.rd w (T.sl 26 1 (xs.map (T.ints 2))) [v]):Calls Tryz.prog 48 #[v] w fun e w'=>e= .returned (.bool (tf (SourcesOk xs)))∧w=w':=by
 have R:=xL hr;obtain⟨A,cap,rfl,hl,hc,hx⟩:=T.yQ hr;clear hx hr;by_cases h6:xs.length≤6
 ·go_enter Tryz.func48,Tryz.ntmps48
  go_wp2_with (go_at_call 85;refine(c_areSignals _ xs _ R.out).mono ?_;rintro e w' ⟨rfl,rfl⟩)
  go_ret
  exact⟨yK (tf_iff ⟨fun h=>⟨h,h6⟩,fun h=>h.each⟩),rfl⟩
 ·go_enter Tryz.func48,Tryz.ntmps48
  go_wp2;go_ret
  exact⟨yK (xE fun h=>h6 h.few).symm,rfl⟩
theorem zIz (v:Value) (xs:List (List Int)) (w:World) (hr:T.rd w (T.sl 26 1 (xs.map (T.ints 2))) [v]):Calls Tryz.prog 153 #[v] w fun e w'=>e= .returned (.bool (tf (xNz xs)))∧w=w':=by
 obtain⟨A,cap,rfl,hl,hc,hx⟩:=T.yQ hr;have HX:=xL hx;clear hx hr
 go_enter Tryz.func153,Tryz.ntmps153
 go_wp2
 go_loop [8] (fun i=> ∃ k:Nat,k≤xs.length∧i= .int .i64 k∧vF xs (fun _ t=>(t.length=2∨t.length=4∨t.length=8∨t.length=16)∧smpB t=true) k) (fun i=>xs.length - (intOf i).toNat)
 case atStart=>exact⟨0,Nat.zero_le _,rfl,vF.zero⟩
 case round=>
  obtain⟨k,hk,rfl,hs⟩:=hrel;have HS:=xL hs;clear hs;by_cases hlt:k<xs.length
  ·have hgk:=gE hlt
   obtain⟨b,off,cs,rfl,hb,hcs,hcell⟩:=HX.out k xs[k] hgk;generalize xs[k]=l at *;have HG:=xL hgk;clear hgk;obtain⟨v3,rfl⟩:=T.rd_one hcs;have d0:=hcell 0 v3 rfl;rw[Nat.mul_one,Nat.add_zero] at d0;have R:=xL (T.yZ.1 hcs);clear hcs hcell;obtain⟨A3,c3,rfl,l3,m3,x3⟩:=R.out.open_;clear x3;by_cases hn:l.length=2∨l.length=4∨l.length=8∨l.length=16
   ·by_cases hq:smpB l=true
    ·rcases hn with hn|hn|hn|hn
     ·skip
      have n2:((l.length:Int) != 2)=false:=by simp;omega
      clear hn;have hn:l.length=2∨l.length=4∨l.length=8∨l.length=16:=by simp at n2;omega
      have HN:=xL hn;clear hn;go_wp2_with (go_at_call 148;refine(vV _ l _ R.out).mono ?_;rintro e w' ⟨rfl,rfl⟩)
      go_round
      case rel=>exact⟨k+1,by omega,by go_num,HS.out.step HG.out ⟨HN.out,hq⟩⟩
      case measure=>simp[intOf];omega
     ·skip
      have n2:((l.length:Int) != 2)=true:=by simp;omega
      have n4:((l.length:Int) != 4)=false:=by simp;omega
      clear hn;have hn:l.length=2∨l.length=4∨l.length=8∨l.length=16:=by simp at n4;omega
      have HN:=xL hn;clear hn;go_wp2_with (go_at_call 148;refine(vV _ l _ R.out).mono ?_;rintro e w' ⟨rfl,rfl⟩)
      go_round
      case rel=>exact⟨k+1,by omega,by go_num,HS.out.step HG.out ⟨HN.out,hq⟩⟩
      case measure=>simp[intOf];omega
     ·skip
      have n2:((l.length:Int) != 2)=true:=by simp;omega
      have n4:((l.length:Int) != 4)=true:=by simp;omega
      have n8:((l.length:Int) != 8)=false:=by simp;omega
      clear hn;have hn:l.length=2∨l.length=4∨l.length=8∨l.length=16:=by simp at n8;omega
      have HN:=xL hn;clear hn;go_wp2_with (go_at_call 148;refine(vV _ l _ R.out).mono ?_;rintro e w' ⟨rfl,rfl⟩)
      go_round
      case rel=>exact⟨k+1,by omega,by go_num,HS.out.step HG.out ⟨HN.out,hq⟩⟩
      case measure=>simp[intOf];omega
     ·skip
      have n2:((l.length:Int) != 2)=true:=by simp;omega
      have n4:((l.length:Int) != 4)=true:=by simp;omega
      have n8:((l.length:Int) != 8)=true:=by simp;omega
      have n16:((l.length:Int) != 16)=false:=by simp;omega
      clear hn;have hn:l.length=2∨l.length=4∨l.length=8∨l.length=16:=by simp at n16;omega
      have HN:=xL hn;clear hn;go_wp2_with (go_at_call 148;refine(vV _ l _ R.out).mono ?_;rintro e w' ⟨rfl,rfl⟩)
      go_round
      case rel=>exact⟨k+1,by omega,by go_num,HS.out.step HG.out ⟨HN.out,hq⟩⟩
      case measure=>simp[intOf];omega
    ·have hq':smpB l=false:=by simpa using hq
     clear hq
     rcases hn with hn|hn|hn|hn
     ·skip
      have n2:((l.length:Int) != 2)=false:=by simp;omega
      clear hn;go_wp2_with (go_at_call 148;refine(vV _ l _ R.out).mono ?_;rintro e w' ⟨rfl,rfl⟩)
      go_ret
      exact⟨yK (xE (fun hh=>by rw[(hh.each k l HG.out).2] at hq';exact absurd hq' (by simp))).symm,rfl⟩
     ·skip
      have n2:((l.length:Int) != 2)=true:=by simp;omega
      have n4:((l.length:Int) != 4)=false:=by simp;omega
      clear hn;go_wp2_with (go_at_call 148;refine(vV _ l _ R.out).mono ?_;rintro e w' ⟨rfl,rfl⟩)
      go_ret
      exact⟨yK (xE (fun hh=>by rw[(hh.each k l HG.out).2] at hq';exact absurd hq' (by simp))).symm,rfl⟩
     ·skip
      have n2:((l.length:Int) != 2)=true:=by simp;omega
      have n4:((l.length:Int) != 4)=true:=by simp;omega
      have n8:((l.length:Int) != 8)=false:=by simp;omega
      clear hn;go_wp2_with (go_at_call 148;refine(vV _ l _ R.out).mono ?_;rintro e w' ⟨rfl,rfl⟩)
      go_ret
      exact⟨yK (xE (fun hh=>by rw[(hh.each k l HG.out).2] at hq';exact absurd hq' (by simp))).symm,rfl⟩
     ·skip
      have n2:((l.length:Int) != 2)=true:=by simp;omega
      have n4:((l.length:Int) != 4)=true:=by simp;omega
      have n8:((l.length:Int) != 8)=true:=by simp;omega
      have n16:((l.length:Int) != 16)=false:=by simp;omega
      clear hn;go_wp2_with (go_at_call 148;refine(vV _ l _ R.out).mono ?_;rintro e w' ⟨rfl,rfl⟩)
      go_ret
      exact⟨yK (xE (fun hh=>by rw[(hh.each k l HG.out).2] at hq';exact absurd hq' (by simp))).symm,rfl⟩
   ·have n2:((l.length:Int) != 2)=true:=by simp;omega
    have n4:((l.length:Int) != 4)=true:=by simp;omega
    have n8:((l.length:Int) != 8)=true:=by simp;omega
    have n16:((l.length:Int) != 16)=true:=by simp;omega
    go_wp2;go_ret
    exact⟨yK (xE (fun hh=>hn (hh.each k l HG.out).1)).symm,rfl⟩
  ·have hall:=xL (HS.out.all zM);clear HS
   by_cases h4:xs.length≤4
   ·go_wp2
    go_ret
    exact⟨yK (by rw[xG ⟨hall.out,h4⟩];simp;omega),rfl⟩
   ·go_wp2
    go_ret
    exact⟨yK (by rw[xE fun h=>h4 h.few];simp;omega),rfl⟩
theorem yLz (x:xR) (cs:List Value) (w:World) (h:T.rds w x.fs cs):Calls Tryz.prog 88 #[.agg cs.toArray] w fun e w'=>e= .returned (.bool (tf (zMz x)))∧Below w.heap.size w w':=by
 obtain rfl:=xR.yR h;clear h;have HB0:=xL (show Below w.heap.size w (w.alloc (.cells #[.int .i64 x.zX,.int .i64 x.zK,.int .i64 x.zA,.int .i64 x.yE,.int .i64 x.zZ] 39)) from zR.alloc zJ _);have HK0:=xL (Bk.born w 39 #[.int .i64 x.zX,.int .i64 x.zK,.int .i64 x.zA,.int .i64 x.yE,.int .i64 x.zZ])
 go_enter Tryz.func88,Tryz.ntmps88
 by_cases h1:inB x.zX 0 5=true
 rotate_left
 ·have hq:inB x.zX 0 5=false:=by simpa using h1
  go_wp2_with (go_at_call 47;refine(xU _ _ _ _).mono ?_;rintro e w' ⟨rfl,rfl⟩)
  go_ret
  exact⟨yK (xE fun hh=>by exact h1 hh.source).symm,HB0.out⟩
 by_cases h2:inB x.zA 1 4000=true
 rotate_left
 ·have hq:inB x.zA 1 4000=false:=by simpa using h2
  go_wp2_with (go_at_call 47;refine(xU _ _ _ _).mono ?_;rintro e w' ⟨rfl,rfl⟩)
  go_ret
  exact⟨yK (xE fun hh=>by exact h2 hh.length).symm,HB0.out⟩
 have hb:=xI.1 h2;by_cases h3:inB x.zK 0 (4000 - x.zA)=true
 rotate_left
 ·have hq:inB x.zK 0 (4000 - x.zA)=false:=by simpa using h3
  go_wp2_with (go_at_call 47;refine(xU _ _ _ _).mono ?_;rintro e w' ⟨rfl,rfl⟩)
  go_ret
  exact⟨yK (xE fun hh=>by exact h3 hh.from_).symm,HB0.out⟩
 by_cases h4:inB x.yE 0 (4000 - x.zA)=true
 rotate_left
 ·have hq:inB x.yE 0 (4000 - x.zA)=false:=by simpa using h4
  go_wp2_with (go_at_call 47;refine(xU _ _ _ _).mono ?_;rintro e w' ⟨rfl,rfl⟩)
  go_ret
  exact⟨yK (xE fun hh=>by exact h4 hh.at_).symm,HB0.out⟩
 by_cases h5:Smp x.zZ
 rotate_left
 ·have hq:decide (Smp x.zZ)=false:=by simpa using h5
  go_wp2_with (first|(go_at_call 47;refine(xU _ _ _ _).mono ?_;rintro e w' ⟨rfl,rfl⟩)|(go_at_call 95;refine(uS _ _).mono ?_;rintro e w' ⟨rfl,rfl⟩))
  go_ret
  exact⟨yK (xE fun hh=>by exact h5 hh.gain).symm,HB0.out⟩
 have hq:decide (Smp x.zZ)=true:=by simpa using h5
 go_wp2_with (first|(go_at_call 47;refine(xU _ _ _ _).mono ?_;rintro e w' ⟨rfl,rfl⟩)|(go_at_call 95;refine(uS _ _).mono ?_;rintro e w' ⟨rfl,rfl⟩))
 go_ret
 exact⟨yK (by rw[xG ⟨h1,h2,h3,h4,h5⟩]),HB0.out⟩
end
section
open Go.RowKit
end
section
open Go.RowKit Go.WideMaps Go.Maps
theorem vI (A:Option Addr) (n c:Nat) (w:World) (h:n≤9223372036854775807):Calls Tryz.prog 46 #[.slice A n c] w fun e w'=>e= .returned (.int .i64 (n:Int))∧w=w':=by
 go_enter Tryz.func46,Tryz.ntmps46
 go_wp2;go_ret
 exact⟨rfl,rfl⟩
theorem uI (A:Option Addr) (n c:Nat) (w:World) (h:n≤9223372036854775807):Calls Tryz.prog 51 #[.slice A n c] w fun e w'=>e= .returned (.int .i64 (n:Int))∧w=w':=by
 go_enter Tryz.func51,Tryz.ntmps51
 go_wp2;go_ret
 exact⟨rfl,rfl⟩
theorem zNz (A:Option Addr) (n c:Nat) (w:World) (h:n≤9223372036854775807):Calls Tryz.prog 54 #[.slice A n c] w fun e w'=>e= .returned (.int .i64 (n:Int))∧w=w':=by
 go_enter Tryz.func54,Tryz.ntmps54
 go_wp2;go_ret
 exact⟨rfl,rfl⟩
theorem wRz (A:Option Addr) (n c:Nat) (w:World) (h:n≤9223372036854775807):Calls Tryz.prog 94 #[.slice A n c] w fun e w'=>e= .returned (.int .i64 (n:Int))∧w=w':=by
 go_enter Tryz.func94,Tryz.ntmps94
 go_wp2;go_ret
 exact⟨rfl,rfl⟩
theorem c_sizeTrack (A:Option Addr) (n c:Nat) (w:World) (h:n≤9223372036854775807):Calls Tryz.prog 96 #[.slice A n c] w fun e w'=>e= .returned (.int .i64 (n:Int))∧w=w':=by
 go_enter Tryz.func96,Tryz.ntmps96
 go_wp2;go_ret
 exact⟨rfl,rfl⟩
theorem c_sizeClip (A:Option Addr) (n c:Nat) (w:World) (h:n≤9223372036854775807):Calls Tryz.prog 97 #[.slice A n c] w fun e w'=>e= .returned (.int .i64 (n:Int))∧w=w':=by
 go_enter Tryz.func97,Tryz.ntmps97
 go_wp2;go_ret
 exact⟨rfl,rfl⟩
theorem zVz (A:Option Addr) (n c:Nat) (w:World) (h:n≤9223372036854775807):Calls Tryz.prog 152 #[.slice A n c] w fun e w'=>e= .returned (.int .i64 (n:Int))∧w=w':=by
 go_enter Tryz.func152,Tryz.ntmps152
 go_wp2;go_ret
 exact⟨rfl,rfl⟩
theorem c_sizeEdit (A:Option Addr) (n c:Nat) (w:World) (h:n≤9223372036854775807):Calls Tryz.prog 26 #[.slice A n c] w fun e w'=>e= .returned (.int .i64 (n:Int))∧w=w':=by
 go_enter Tryz.func26,Tryz.ntmps26
 go_wp2;go_ret
 exact⟨rfl,rfl⟩
theorem wXz (s:ByteArray) (w:World):Calls Tryz.prog 86 #[.string s] w fun e w'=>e= .returned (.bool (tf (NameOk s)))∧w=w':=by
 by_cases h1:1≤s.size
 rotate_left
 ·go_enter Tryz.func86,Tryz.ntmps86
  go_wp2;go_ret
  exact⟨yK (xE fun h=>h1 h.some_).symm,rfl⟩
 by_cases h2:s.size≤10
 rotate_left
 ·go_enter Tryz.func86,Tryz.ntmps86
  go_wp2;go_ret
  exact⟨yK (xE fun h=>h2 h.few).symm,rfl⟩
 go_enter Tryz.func86,Tryz.ntmps86
 go_wp2
 go_loop [3] (fun i=> ∃ k:Nat,k≤s.size∧i= .int .i64 k∧ ∀ i,i<k→xBz (bA s i)∨(xCz (bA s i)∧i≠0)) (fun i=>s.size - (intOf i).toNat)
 case atStart=>exact⟨0,Nat.zero_le _,rfl,fun i h=>absurd h zM⟩
 case round=>
  obtain⟨k,hk,rfl,hs⟩:=hrel;have HS:=xL hs;clear hs;by_cases hlt:k<s.size
  ·have hb:=bA_lt s k
   have hg:=bA_get hlt;have HX:Sec (∀ p:Prop,p→p):=⟨fun _ h=>h⟩;generalize hy:bA s k=y at *;have HY:=xL hy;clear hy;by_cases a1:97≤y
   ·by_cases a2:y≤122
    ·by_cases a3:48≤y
     ·by_cases a4:y≤57
      ·omega
      ·have n1:decide ((y:Int)≤122)=true:=decide_eq_true zM
       have n2:decide ((y:Int)≤57)=false:=decide_eq_false zM;go_wp2
       go_round
       case rel=>exact⟨k+1,by omega,by go_num,fun i hi=>by
        by_cases e:i=k
        ·subst e;rw[HY.out];exact .inl ⟨a1,a2⟩
        ·exact HS.out i zM⟩
       case measure=>simp[intOf];omega
     ·omega
    ·by_cases a4:y≤57
     ·omega
     ·have n1:decide ((y:Int)≤122)=false:=decide_eq_false zM
      have n2:decide ((y:Int)≤57)=false:=decide_eq_false zM;go_wp2;go_ret
      exact⟨yK (xE fun h=>by rcases h.each k hlt with h|h<;>rw[HY.out] at h<;>(simp only[xBz,xCz] at h;omega)).symm,rfl⟩
   ·by_cases a3:48≤y
    ·by_cases a4:y≤57
     ·have n2:decide ((y:Int)≤57)=true:=decide_eq_true zM
      by_cases a5:k=0
      ·subst a5
       go_wp2;go_ret
       exact⟨yK (xE fun h=>by rcases h.each 0 hlt with h|h<;>rw[HY.out] at h<;>(simp only[xBz,xCz] at h;omega)).symm,rfl⟩
      ·have a6:((k:Int) == 0)=false:=by simp;omega
       have A5:=xL a5;clear a5;go_wp2
       go_round
       case rel=>exact⟨k+1,by omega,by go_num,fun i hi=>by
        by_cases e:i=k
        ·subst e;rw[HY.out];exact .inr ⟨⟨a3,a4⟩,A5.out⟩
        ·exact HS.out i zM⟩
       case measure=>simp[intOf];omega
     ·have n2:decide ((y:Int)≤57)=false:=decide_eq_false zM
      go_wp2;go_ret
      exact⟨yK (xE fun h=>by rcases h.each k hlt with h|h<;>rw[HY.out] at h<;>(simp only[xBz,xCz] at h;omega)).symm,rfl⟩
    ·go_wp2
     go_ret
     exact⟨yK (xE fun h=>by rcases h.each k hlt with h|h<;>rw[HY.out] at h<;>(simp only[xBz,xCz] at h;omega)).symm,rfl⟩
  ·go_wp2
   go_ret
   exact⟨yK (xG ⟨h1,h2,fun i hi=>HS.out i zM⟩).symm,rfl⟩
theorem befS_succ {l:List xV} {p:Int} {k:Nat} {y:xV} (h:l[k]?=some y):befS l p (k+1)=y.yG:=by
 unfold befS;rw[if_neg zM,Nat.add_sub_cancel,List.getD_eq_getElem?_getD,h];rfl
theorem c_areSends (v:Value) (xs:List xV) (p n:Int) (w:World) (p0:0≤p) (p1:p≤1048576) (n0:0≤n) (n1:n≤1048576) (hr:T.rd w (T.sl 71 2 (xs.map xV.t)) [v]):Calls Tryz.prog 87 #[v,.int .i64 p,.int .i64 n] w fun e w'=>e= .returned (.bool (tf (xAz xs p n)))∧Below w.heap.size w w':=by
 obtain⟨A,cap,rfl,hl,hc,hx⟩:=T.yQ hr;have HX:=xL hx;clear hx hr
 go_enter Tryz.func87,Tryz.ntmps87
 go_wp2
 go_loopw [7,13] (fun b i wr=> ∃ (k:Nat) (bf:Int),k≤xs.length∧i= .int .i64 k∧b= .int .i64 bf∧bf=befS xs p k∧0≤bf∧bf≤1048576∧vF xs (fun i x=>inB x.yG (befS xs p i+1) (n - 1)=true∧Smp x.zZ) k∧Below w.heap.size w wr) (fun _ i _=>xs.length - (intOf i).toNat)
 case atStart=>exact⟨0,p,Nat.zero_le _,rfl,rfl,rfl,p0,p1,vF.zero,zR⟩
 case round=>
  obtain⟨k,bf,hk,rfl,rfl,hbf,b0,b1,hs,hbw⟩:=hrel;have HS:=xL hs;have HB:=xL hbw;have HBF:=xL hbf;clear hs hbw hbf;by_cases hlt:k<xs.length
  ·have hgk:=gE hlt
   obtain⟨b,off,cs,rfl,hb,hcs,hcell⟩:=HX.out k xs[k] hgk;generalize xs[k]=y at *;have HG:=xL hgk;clear hgk;obtain rfl:=xV.yR (show T.rds _ _ _ by simpa only[xV.t,T.rd] using hcs);have d0:=(HB.out.cell hb).trans (hcell 0 (.int .i64 y.yG) rfl);have d1:=(HB.out.cell hb).trans (hcell 1 (.int .i64 y.zZ) rfl);rw[show off+(k * 2+0)=off+k * 2 by omega] at d0;rw[show off+(k * 2+1)=off+k * 2+1 by omega] at d1;clear hcs hcell;have hq:b<wr.heap.size:=zW hb HB.out.size;have hB:=HB.out;have hsz:=HB.out.size;by_cases q1:inB y.yG (bf+1) (n - 1)=true
   rotate_left
   ·have q1':inB y.yG (bf+1) (n - 1)=false:=by simpa using q1
    go_wp2_with (first|(go_at_call 47;refine(xU _ _ _ _).mono ?_;rintro e w' ⟨rfl,rfl⟩)|(go_at_call 95;refine(uS _ _).mono ?_;rintro e w' ⟨rfl,rfl⟩))
    go_ret
    exact⟨yK (xE fun h=>by have:=(h.each k y HG.out).1;rw[←HBF.out] at this;exact q1 this).symm,ba⟩
   have i1:=xI.1 q1;by_cases q2:Smp y.zZ
   rotate_left
   ·have q2':decide (Smp y.zZ)=false:=decide_eq_false q2
    have Q2:=xL q2;clear q2;go_wp2_with (first|(go_at_call 47;refine(xU _ _ _ _).mono ?_;rintro e w' ⟨rfl,rfl⟩)|(go_at_call 95;refine(uS _ _).mono ?_;rintro e w' ⟨rfl,rfl⟩))
    go_ret
    exact⟨yK (xE fun h=>Q2.out (h.each k y HG.out).2).symm,ba⟩
   have q2':decide (Smp y.zZ)=true:=decide_eq_true q2;have Q2:=xL q2;have Q1:=xL q1;clear q2;go_wp2_with (first|(go_at_call 47;refine(xU _ _ _ _).mono ?_;rintro e w' ⟨rfl,rfl⟩)|(go_at_call 95;refine(uS _ _).mono ?_;rintro e w' ⟨rfl,rfl⟩))
   go_roundw
   case rel=>exact⟨k+1,y.yG,by omega,by go_num,rfl,(befS_succ HG.out).symm,by omega,by omega,HS.out.step HG.out ⟨by rw[←HBF.out];exact Q1.out,Q2.out⟩,ba⟩
   case measure=>simp[intOf];omega
  ·have hall:=xL (HS.out.all zM);clear HS
   have hB:=HB.out;by_cases hp:p=n - 1
   ·by_cases hz:xs.length=0
    ·have z1:((xs.length:Int) == 0)=true:=yY zM
     have HZ:=xL hz;have HP:=xL hp;have z2:(p == n - 1)=true:=by simp[hp]
     clear hz hp;go_wp2;go_ret
     exact⟨yK (xG ⟨hall.out,fun _=>HZ.out,fun h=>absurd HP.out h⟩).symm,HB.out⟩
    ·have z1:((xs.length:Int) == 0)=false:=yX zM
     have HZ:=xL hz;have HP:=xL hp;have z2:(p == n - 1)=true:=by simp[hp]
     clear hz hp;go_wp2;go_ret
     exact⟨yK (xE fun h=>HZ.out (h.last HP.out)).symm,HB.out⟩
   ·have z2:(p == n - 1)=false:=by simp[hp]
    have HP:=xL hp;clear hp;go_wp2_with (first|(go_at_call 47;refine(xU _ _ _ _).mono ?_;rintro e w' ⟨rfl,rfl⟩)|(go_at_call 94;refine(wRz _ _ _ _ zM).mono ?_;rintro e w' ⟨rfl,rfl⟩))
    go_ret
    exact⟨yK (by
     by_cases hz:1≤xs.length∧xs.length≤4
     ·rw[xG ⟨hall.out,fun h=>absurd h HP.out,fun _=>hz⟩];exact xI.2 zM
     ·rw[xE fun h=>hz (h.few HP.out)];exact inB_false.2 zM),HB.out⟩
end
section
open Go.RowKit Go.WideMaps Go.Maps
theorem c_hasSrc1 (x:xR) (n:Int) (b:Nat) (w:World) (hb:b<w.heap.size) (hc:w.cell? ⟨b,0,none⟩=some (.int .i64 n)):Calls Tryz.prog 90 #[.agg #[.int .i64 x.zX,.int .i64 x.zK,.int .i64 x.zA,.int .i64 x.yE,.int .i64 x.zZ],.pointer (some ⟨b,0,none⟩)] w fun e w'=>e= .returned (.bool (decide (n≤x.zX)))∧Below w.heap.size w w':=by
 have hB:Below w.heap.size w (w.alloc (.cells #[.int .i64 x.zX,.int .i64 x.zK,.int .i64 x.zA,.int .i64 x.yE,.int .i64 x.zZ] 39)):=zR.alloc zJ _;have HB:=xL hB;clear hB
 go_enter Tryz.func90,Tryz.ntmps90
 go_wp2;go_ret
 exact⟨rfl,HB.out⟩
theorem c_idxSrc (v:Value) (xs:List xR) (n:Int) (b:Nat) (w:World) (hb:b<w.heap.size) (hcb:w.cell? ⟨b,0,none⟩=some (.int .i64 n)) (hr:T.rd w (T.sl 39 5 (xs.map xR.t)) [v]):Calls Tryz.prog 123 #[v,.func (.func 90) #[] #[.pointer (some ⟨b,0,none⟩)]] w fun e w'=> ∃ r:Int,e= .returned (.int .i64 r)∧(0≤r↔ ∃ x ∈ xs,n≤x.zX)∧Below w.heap.size w w':=by
 obtain⟨A,cap,rfl,hl,hc,hx⟩:=T.yQ hr;have HX:=xL hx;clear hx hr;have BB:=xL (And.intro hb hcb);clear hb hcb
 go_enter Tryz.func123,Tryz.ntmps123
 go_wp2
 go_loopw [8] (fun i wr=> ∃ k:Nat,k≤xs.length∧i= .int .i64 k∧vF xs (fun _ x=>x.zX<n) k∧Below w.heap.size w wr) (fun i _=>xs.length - (intOf i).toNat)
 case atStart=>exact⟨0,Nat.zero_le _,rfl,vF.zero,zR⟩
 case round=>
  obtain⟨k,hk,rfl,hs,hbw⟩:=hrel;have HS:=xL hs;have HB:=xL hbw;clear hs hbw;by_cases hlt:k<xs.length
  ·have hgk:=gE hlt
   obtain⟨b1,off,cs,rfl,hb1,hcs,hcell⟩:=HX.out k xs[k] hgk;generalize xs[k]=x at *;have HG:=xL hgk;clear hgk;obtain rfl:=xR.yR (show T.rds _ _ _ by simpa only[xR.t,T.rd] using hcs);have d0:=(HB.out.cell hb1).trans (hcell 0 (.int .i64 x.zX) rfl);have d1:=(HB.out.cell hb1).trans (hcell 1 (.int .i64 x.zK) rfl);have d2:=(HB.out.cell hb1).trans (hcell 2 (.int .i64 x.zA) rfl);have d3:=(HB.out.cell hb1).trans (hcell 3 (.int .i64 x.yE) rfl);have d4:=(HB.out.cell hb1).trans (hcell 4 (.int .i64 x.zZ) rfl);rw[show off+(k * 5+0)=off+k * 5 by omega] at d0;rw[show off+(k * 5+1)=off+k * 5+1 by omega] at d1;rw[show off+(k * 5+2)=off+k * 5+2 by omega] at d2;rw[show off+(k * 5+3)=off+k * 5+3 by omega] at d3;rw[show off+(k * 5+4)=off+k * 5+4 by omega] at d4;clear hcs hcell;by_cases hq:n≤x.zX
   ·have hd:decide (n≤x.zX)=true:=decide_eq_true hq
    have HQ:=xL hq;clear hq;go_wp2_with (go_at_call 90;refine(c_hasSrc1 x n b _ (zW BB.out.1 HB.out.size) ((HB.out.cell BB.out.1).trans BB.out.2)).mono ?_;rintro e w3 ⟨rfl,hb3⟩;rw[hd])
    have HB3:=xL (yM HB.out HB.out.size hb3);clear hb3;go_wp2;go_ret
    exact⟨_,rfl,⟨fun _=>⟨x,List.mem_of_getElem? HG.out,HQ.out⟩,fun _=>by omega⟩,HB3.out⟩
   ·have hd:decide (n≤x.zX)=false:=decide_eq_false hq
    have HQ:=xL hq;clear hq;go_wp2_with (go_at_call 90;refine(c_hasSrc1 x n b _ (zW BB.out.1 HB.out.size) ((HB.out.cell BB.out.1).trans BB.out.2)).mono ?_;rintro e w3 ⟨rfl,hb3⟩;rw[hd])
    have HB3:=xL (yM HB.out HB.out.size hb3);clear hb3;go_wp2
    go_roundw
    case rel=>exact⟨k+1,by omega,by go_num,HS.out.step HG.out (by have:=HQ.out;omega),HB3.out⟩
    case measure=>simp[intOf];omega
  ·have hall:=xL (HS.out.all zM);clear HS
   go_wp2;go_ret
   exact⟨-1,rfl,⟨fun h=>absurd h zM,fun⟨x,hx,hp⟩=>by
    obtain⟨i,hi,rfl⟩:=List.mem_iff_getElem.1 hx;have:=hall.out i _ (gE hi);omega⟩,HB.out⟩
theorem c_anySrc (v:Value) (xs:List xR) (n:Int) (b:Nat) (w:World) (hb:b<w.heap.size) (hcb:w.cell? ⟨b,0,none⟩=some (.int .i64 n)) (hr:T.rd w (T.sl 39 5 (xs.map xR.t)) [v]):Calls Tryz.prog 89 #[v,.func (.func 90) #[] #[.pointer (some ⟨b,0,none⟩)]] w fun e w'=>e= .returned (.bool (tf (∃ x ∈ xs,n≤x.zX)))∧Below w.heap.size w w':=by
 have HR:=xL hr;have BB:=xL (And.intro hb hcb);clear hb hcb;obtain⟨A,cap,rfl,hl,hc,hx⟩:=T.yQ hr;clear hx hr
 go_enter Tryz.func89,Tryz.ntmps89
 go_wp2_with (go_at_call 123;refine(c_idxSrc _ xs n b _ BB.out.1 BB.out.2 HR.out).mono ?_;rintro e w3 ⟨r,rfl,hiff,hb3⟩;have HI:=xL hiff;have H3:=xL hb3;clear hiff hb3)
 go_ret
 exact⟨yK (by rw[←uE];exact tf_iff HI.out),H3.out⟩
theorem xEz (x:xN) (cs:List Value) (n:Int) (w:World) (h:T.rds w x.fs cs):Calls Tryz.prog 53 #[.agg cs.toArray,.int .i64 n] w fun e w'=>e= .returned (.bool (tf (∀ c ∈ x.zL,c.zX<n)))∧Below w.heap.size w w':=by
 obtain⟨v0,rfl,h0⟩:=xN.yR h;clear h;obtain⟨va0,vc0,rfl,vl0,vm0,R0,HX0⟩:=oG h0;clear h0;have HB0:=xL (show Below w.heap.size w (w.alloc (.cells #[(.slice va0 x.zL.length vc0)] 69)) from zR.alloc zJ _);have HK0:=xL (Bk.born w 69 #[(.slice va0 x.zL.length vc0)]);have hmf: ∀ (fn:Fn) (first cap:Array Value) (w:World),(Instr.makeFunc fn first cap).run Tryz.prog w= .ok (.func fn first cap) w:=fun _ _ _ _=>by simp[go_sem,Instr.makeFunc]
 have hb1:Below w.heap.size w ((w.alloc (.cells #[(.slice va0 x.zL.length vc0)] 69)).alloc (.cells #[.int .i64 n] 2)):=HB0.out.alloc (by simp) _;have H1:=xL hb1;clear hb1;have hsz1:((w.alloc (.cells #[(.slice va0 x.zL.length vc0)] 69)).alloc (.cells #[.int .i64 n] 2)).heap.size=w.heap.size+2:=by simp
 have Hsz:=xL hsz1;clear hsz1
 go_enter Tryz.func53,Tryz.ntmps53
 go_wp2_with (go_at_call 89;refine(c_anySrc _ x.zL n (w.heap.size+1) _ (by rw[Hsz.out];omega) (by simp) (T.yH R0.out H1.out)).mono ?_;rintro e w3 ⟨rfl,hb3⟩;have H3:=xL (yM H1.out (by rw[Hsz.out];omega) hb3);clear hb3)
 go_ret
 exact⟨yK (by
  by_cases hc: ∃ c ∈ x.zL,n≤c.zX
  ·rw[xG hc,xE (fun h=>by obtain⟨c,hc1,hc2⟩:=hc;have:=h c hc1;omega)];rfl
  ·rw[xE hc,xG (fun c h=>Int.not_le.1 fun k=>hc ⟨c,h,k⟩)];rfl),H3.out⟩
theorem yTz (x:xN) (cs:List Value) (w:World) (h:T.rds w x.fs cs):Calls Tryz.prog 52 #[.agg cs.toArray] w fun e w'=>e= .returned (.bool (tf (uJ x)))∧Below w.heap.size w w':=by
 obtain⟨v0,rfl,h0⟩:=xN.yR h;clear h;obtain⟨va0,vc0,rfl,vl0,vm0,R0,HX0⟩:=oG h0;clear h0;have HB0:=xL (show Below w.heap.size w (w.alloc (.cells #[(.slice va0 x.zL.length vc0)] 69)) from zR.alloc zJ _);have HK0:=xL (Bk.born w 69 #[(.slice va0 x.zL.length vc0)])
 go_enter Tryz.func52,Tryz.ntmps52
 go_wp2
 go_loopw [8] (fun i wr=> ∃ k:Nat,k≤x.zL.length∧i= .int .i64 k∧vF x.zL (fun i c=>zMz c∧ ∀ p,0<i→x.zL[i - 1]?=some p→p.yE≤c.yE) k∧Below (w.alloc (.cells #[(.slice va0 x.zL.length vc0)] 69)).heap.size (w.alloc (.cells #[(.slice va0 x.zL.length vc0)] 69)) wr) (fun i _=>x.zL.length - (intOf i).toNat)
 case atStart=>exact⟨0,Nat.zero_le _,rfl,vF.zero,zR⟩
 case round=>
  obtain⟨k,hk,rfl,hs,hbw⟩:=hrel;have HS:=xL hs;have HW:=xL hbw;have HB:=xL (yM HB0.out HB0.out.size hbw);have HK:=xL (HK0.out.below hbw HK0.out.lt);clear hs hbw;have ka:=HK.out.cell;have la:=HK.out.lt;by_cases hlt:k<x.zL.length
  rotate_left
  ·have hall:=xL (HS.out.all zM);clear HS
   by_cases h12:x.zL.length≤12
   ·go_wp2
    go_ret
    exact⟨yK (by rw[xG ⟨hall.out,h12⟩];exact decide_eq_true zM),HB.out⟩
   ·go_wp2
    go_ret
    exact⟨yK (by rw[xE fun h=>h12 h.few];exact decide_eq_false zM),HB.out⟩
  have hgk:=gE hlt;obtain⟨b1,off,cs1,hA,hb1,hcs,hcell⟩:=HX0.out k x.zL[k] hgk;subst hA;generalize x.zL[k]=y at *;have HG:=xL hgk;clear hgk;obtain rfl:=xR.yR (show T.rds _ _ _ by simpa only[xR.t,T.rd] using hcs);have d0:=(HB.out.cell hb1).trans (hcell 0 (.int .i64 y.zX) rfl);have d1:=(HB.out.cell hb1).trans (hcell 1 (.int .i64 y.zK) rfl);have d2:=(HB.out.cell hb1).trans (hcell 2 (.int .i64 y.zA) rfl);have d3:=(HB.out.cell hb1).trans (hcell 3 (.int .i64 y.yE) rfl);have d4:=(HB.out.cell hb1).trans (hcell 4 (.int .i64 y.zZ) rfl);rw[show off+(k * 5+0)=off+k * 5 by omega] at d0;rw[show off+(k * 5+1)=off+k * 5+1 by omega] at d1;rw[show off+(k * 5+2)=off+k * 5+2 by omega] at d2;rw[show off+(k * 5+3)=off+k * 5+3 by omega] at d3;rw[show off+(k * 5+4)=off+k * 5+4 by omega] at d4;clear hcs hcell;have hq1:b1<wr.heap.size:=zW hb1 HB.out.size;have hT0:= @xR.rd_mk;clear hT0;by_cases hk0:k=0
  ·have g0':decide (0<k)=false:=decide_eq_false zM
   have K0:=xL hk0;clear hk0;by_cases q1:zMz y
   ·have a1:=xG q1
    have Q1:=xL q1;clear q1;have hWb:Below wr.heap.size wr (wr.alloc (.cells #[.int .i64 y.zX,.int .i64 y.zK,.int .i64 y.zA,.int .i64 y.yE,.int .i64 y.zZ] 39)):=zR.alloc zJ _;have hNb:=Bk.born wr 39 #[.int .i64 y.zX,.int .i64 y.zK,.int .i64 y.zA,.int .i64 y.yE,.int .i64 y.zZ];go_wp2;generalize wr.alloc (.cells #[.int .i64 y.zX,.int .i64 y.zK,.int .i64 y.zA,.int .i64 y.yE,.int .i64 y.zZ] 39)=W at *;have HWb:=xL hWb;have HNb:=xL hNb;have HKW:=xL (HK.out.below hWb HK.out.lt);have g0:=xK hNb;have g1:=xK HKW.out;clear hWb hNb;refine rB ?_
    repeat(first|go_big_quiet_skip|(go_big_quiet_want;go_big_quiet_op;first|go_big_quiet_on|(apply Exists.intro;refine⟨fun _=>?_,?_⟩;(· (go_at_call 88;exact Calls.yO ((yLz y _ _ xR.rd_mk).mono (fun e w' h=>by rw[a1] at h;exact h))));go_big_quiet_on)))
    refine wpQuiet_nil ?_;rintro w9 ⟨uu,rfl⟩;have hb9:=yJ W uu;generalize bel W uu=w9 at *;have HC:=xL (yM HWb.out HWb.out.size hb9);have HC2:=xL (yM HB.out HB.out.size HC.out);have HC3:=xL (yM HW.out HW.out.size HC.out);clear hb9 g0 g1;go_wp2
    go_roundw
    case rel=>exact⟨k+1,by omega,by go_num,HS.out.step HG.out ⟨Q1.out,fun p h=>by have:=K0.out;omega⟩,HC3.out⟩
    case measure=>simp[intOf];omega
   ·have a1:=xE q1
    have Q1:=xL q1;clear q1;have hWb:Below wr.heap.size wr (wr.alloc (.cells #[.int .i64 y.zX,.int .i64 y.zK,.int .i64 y.zA,.int .i64 y.yE,.int .i64 y.zZ] 39)):=zR.alloc zJ _;have hNb:=Bk.born wr 39 #[.int .i64 y.zX,.int .i64 y.zK,.int .i64 y.zA,.int .i64 y.yE,.int .i64 y.zZ];go_wp2;generalize wr.alloc (.cells #[.int .i64 y.zX,.int .i64 y.zK,.int .i64 y.zA,.int .i64 y.yE,.int .i64 y.zZ] 39)=W at *;have HWb:=xL hWb;have HNb:=xL hNb;have HKW:=xL (HK.out.below hWb HK.out.lt);have g0:=xK hNb;have g1:=xK HKW.out;clear hWb hNb;refine rB ?_
    repeat(first|go_big_quiet_skip|(go_big_quiet_want;go_big_quiet_op;first|go_big_quiet_on|(apply Exists.intro;refine⟨fun _=>?_,?_⟩;(· (go_at_call 88;exact Calls.yO ((yLz y _ _ xR.rd_mk).mono (fun e w' h=>by rw[a1] at h;exact h))));go_big_quiet_on)))
    refine wpQuiet_nil ?_;rintro w9 ⟨uu,rfl⟩;have hb9:=yJ W uu;generalize bel W uu=w9 at *;have HC:=xL (yM HWb.out HWb.out.size hb9);have HC2:=xL (yM HB.out HB.out.size HC.out);have HC3:=xL (yM HW.out HW.out.size HC.out);clear hb9 g0 g1;go_wp2;go_ret
    exact⟨yK (xE fun h=>Q1.out (h.clips k y HG.out).1).symm,HC2.out⟩
  obtain⟨j,rfl⟩: ∃ j,k=j+1:=⟨k - 1,by omega⟩;clear hk0;have hlj:j<x.zL.length:=by omega
  have hgj:=gE hlj;obtain⟨b2,off2,cs2,hA,hb2,hcs,hcell⟩:=HX0.out j x.zL[j] hgj;obtain⟨rfl,rfl⟩:b1=b2∧off=off2:=by injection hA with hA;injection hA with e1 e2;exact⟨e1,e2⟩
  clear hA;generalize x.zL[j]=z at *;have HJ:=xL hgj;clear hgj;obtain rfl:=xR.yR (show T.rds _ _ _ by simpa only[xR.t,T.rd] using hcs);have g0:=(HB.out.cell hb2).trans (hcell 0 (.int .i64 z.zX) rfl);have g1:=(HB.out.cell hb2).trans (hcell 1 (.int .i64 z.zK) rfl);have g2:=(HB.out.cell hb2).trans (hcell 2 (.int .i64 z.zA) rfl);have g3:=(HB.out.cell hb2).trans (hcell 3 (.int .i64 z.yE) rfl);have g4:=(HB.out.cell hb2).trans (hcell 4 (.int .i64 z.zZ) rfl);rw[show off+(j * 5+0)=off+j * 5 by omega] at g0;rw[show off+(j * 5+1)=off+j * 5+1 by omega] at g1;rw[show off+(j * 5+2)=off+j * 5+2 by omega] at g2;rw[show off+(j * 5+3)=off+j * 5+3 by omega] at g3;rw[show off+(j * 5+4)=off+j * 5+4 by omega] at g4;clear hcs hcell;have G3:=xL g3;clear g0 g1 g2 g3 g4;have n1:((j:Int)<(x.zL.length:Int)):=by omega
  have e1:IntKind.i64.wrap ((j:Int)+1 - 1)=(j:Int):=by rw[IntWalk.i64_in _ zM];omega
  have e2:IntKind.i64.wrap (j:Int)=(j:Int):=IntWalk.i64_in _ zM;have n0:(0:Int)≤(j:Int):=by omega
  by_cases q1:zMz y
  rotate_left
  ·have a1:=xE q1
   have Q1:=xL q1;clear q1;have hWb:Below wr.heap.size wr (wr.alloc (.cells #[.int .i64 y.zX,.int .i64 y.zK,.int .i64 y.zA,.int .i64 y.yE,.int .i64 y.zZ] 39)):=zR.alloc zJ _;have hNb:=Bk.born wr 39 #[.int .i64 y.zX,.int .i64 y.zK,.int .i64 y.zA,.int .i64 y.yE,.int .i64 y.zZ];go_wp2;generalize wr.alloc (.cells #[.int .i64 y.zX,.int .i64 y.zK,.int .i64 y.zA,.int .i64 y.yE,.int .i64 y.zZ] 39)=W at *;have HWb:=xL hWb;have HNb:=xL hNb;have HKW:=xL (HK.out.below hWb HK.out.lt);have g0:=xK hNb;have g1:=xK HKW.out;have g2:=yI ((hWb.cell (World.block_lt_of_cell? wr _ G3.out)).trans G3.out);clear hWb hNb;refine rB ?_
   repeat(first|go_big_quiet_skip|(go_big_quiet_want;go_big_quiet_op;first|go_big_quiet_on|(apply Exists.intro;refine⟨fun _=>?_,?_⟩;(· (go_at_call 88;exact Calls.yO ((yLz y _ _ xR.rd_mk).mono (fun e w' h=>by rw[a1] at h;exact h))));go_big_quiet_on)))
   refine wpQuiet_nil ?_;rintro w9 ⟨uu,rfl⟩;have hb9:=yJ W uu;generalize bel W uu=w9 at *;have HC:=xL (yM HWb.out HWb.out.size hb9);have HC2:=xL (yM HB.out HB.out.size HC.out);have HC3:=xL (yM HW.out HW.out.size HC.out);clear hb9 g0 g1 g2;go_wp2;go_ret
   exact⟨yK (xE fun h=>Q1.out (h.clips (j+1) y HG.out).1).symm,HC2.out⟩
  have a1:=xG q1;have Q1:=xL q1;clear q1;by_cases q2:y.yE<z.yE
  ·have Q2:=xL q2
   have hWb:Below wr.heap.size wr (wr.alloc (.cells #[.int .i64 y.zX,.int .i64 y.zK,.int .i64 y.zA,.int .i64 y.yE,.int .i64 y.zZ] 39)):=zR.alloc zJ _;have hNb:=Bk.born wr 39 #[.int .i64 y.zX,.int .i64 y.zK,.int .i64 y.zA,.int .i64 y.yE,.int .i64 y.zZ];go_wp2;generalize wr.alloc (.cells #[.int .i64 y.zX,.int .i64 y.zK,.int .i64 y.zA,.int .i64 y.yE,.int .i64 y.zZ] 39)=W at *;have HWb:=xL hWb;have HNb:=xL hNb;have HKW:=xL (HK.out.below hWb HK.out.lt);have g0:=xK hNb;have g1:=xK HKW.out;have g2:=yI ((hWb.cell (World.block_lt_of_cell? wr _ G3.out)).trans G3.out);clear hWb hNb;refine rB ?_
   repeat(first|go_big_quiet_skip|(go_big_quiet_want;go_big_quiet_op;first|go_big_quiet_on|(apply Exists.intro;refine⟨fun _=>?_,?_⟩;(· (go_at_call 88;exact Calls.yO ((yLz y _ _ xR.rd_mk).mono (fun e w' h=>by rw[a1] at h;exact h))));go_big_quiet_on)))
   refine wpQuiet_nil ?_;rintro w9 ⟨uu,rfl⟩;have hb9:=yJ W uu;generalize bel W uu=w9 at *;have HC:=xL (yM HWb.out HWb.out.size hb9);have HC2:=xL (yM HB.out HB.out.size HC.out);have HC3:=xL (yM HW.out HW.out.size HC.out);clear hb9 g0 g1 g2;go_wp2;go_ret
   exact⟨yK (xE fun h=>by have:=(h.clips (j+1) y HG.out).2 z zM HJ.out;have:=Q2.out;omega).symm,HC2.out⟩
  have hWb:Below wr.heap.size wr (wr.alloc (.cells #[.int .i64 y.zX,.int .i64 y.zK,.int .i64 y.zA,.int .i64 y.yE,.int .i64 y.zZ] 39)):=zR.alloc zJ _;have hNb:=Bk.born wr 39 #[.int .i64 y.zX,.int .i64 y.zK,.int .i64 y.zA,.int .i64 y.yE,.int .i64 y.zZ];go_wp2;generalize wr.alloc (.cells #[.int .i64 y.zX,.int .i64 y.zK,.int .i64 y.zA,.int .i64 y.yE,.int .i64 y.zZ] 39)=W at *;have HWb:=xL hWb;have HNb:=xL hNb;have HKW:=xL (HK.out.below hWb HK.out.lt);have g0:=xK hNb;have g1:=xK HKW.out;have g2:=yI ((hWb.cell (World.block_lt_of_cell? wr _ G3.out)).trans G3.out);clear hWb hNb;refine rB ?_
  repeat(first|go_big_quiet_skip|(go_big_quiet_want;go_big_quiet_op;first|go_big_quiet_on|(apply Exists.intro;refine⟨fun _=>?_,?_⟩;(· (go_at_call 88;exact Calls.yO ((yLz y _ _ xR.rd_mk).mono (fun e w' h=>by rw[a1] at h;exact h))));go_big_quiet_on)))
  refine wpQuiet_nil ?_;rintro w9 ⟨uu,rfl⟩;have hb9:=yJ W uu;generalize bel W uu=w9 at *;have HC:=xL (yM HWb.out HWb.out.size hb9);have HC2:=xL (yM HB.out HB.out.size HC.out);have HC3:=xL (yM HW.out HW.out.size HC.out);clear hb9 g0 g1 g2;go_wp2
  go_roundw
  case rel=>exact⟨j+1+1,by omega,by go_num,HS.out.step HG.out ⟨Q1.out,fun p _ hp=>by rw[Nat.add_sub_cancel,HJ.out] at hp;injection hp with hp;subst hp;omega⟩,HC3.out⟩
  case measure=>simp[intOf];omega
end
section
open Go.RowKit Go.WideMaps Go.Maps
theorem lookup_bool {P:Program} {k e t:TypeId} {w:World} {b n:Nat} {D:DataW Unit} (h:w.ownsMap P k (plainElem (H:=Unit) P e) b n D) (K:Keyed P k) (ht:P.underlying t=some (.map k e)) (he:P.underlying e=some .bool) (hz:(zeroValue e).run P w= .ok (.bool false) w)
  {key:Value} {kl:Lit} (hkey:keyOf P k key=some kl): ∃ c,(Instr.lookup t (.map (some b)) key false).run P w= .ok (.bool c) w∧D.atKey kl (.lit (.bool false))= .lit (.bool c):=by
 obtain⟨v,ps,hrun,hv⟩:=h.lookup K ht hz (plainElem_bool he false) hkey;unfold plainElem at hv;rw[he] at hv
 cases v<;>simp at hv
 exact⟨_,hrun,hv.1.symm⟩
theorem key_s:Keyed Tryz.prog 9:=string_keyed Tryz.underlying9
theorem grown_of_below {w w':World} (h:Below w.heap.size w w') (row:Option Nat):w.grownBy w' row:=⟨h.os,h.tape,h.output,h.size,fun k hk _=>h.block k hk⟩
theorem lit_s_ne {s t:ByteArray} (h:s≠t):(Lit.string s.data.toList)≠Lit.string t.data.toList:=by
 intro e;injection e with e;exact h (ByteArray.ext (Array.toList_inj.1 e))
def Nms (xs:List xO) (k:Nat) (D:DataW Unit):Prop:=IsMap D∧ ∀ s:ByteArray,D.atKey (.string s.data.toList) (.lit (.bool false))= .lit (.bool (tf (∃ j y,j<k∧xs[j]?=some y∧y.yC=s)))
theorem Nms.zero (xs:List xO):Nms xs 0 (.map []):=by
 refine⟨isMap_empty,fun s=>?_⟩;rw[xE (by rintro⟨j,y,h,_⟩;omega)]
 rfl
theorem Nms.step {xs:List xO} {k:Nat} {D:DataW Unit} {x:xO} (h:Nms xs k D) (hx:xs[k]?=some x) (hk:WideAt.IsKeyLit (.string x.yC.data.toList)):Nms xs (k+1) (D.put (.string x.yC.data.toList) (.lit (.bool true))):=by
 refine⟨h.1.put _ _,fun s=>?_⟩;by_cases e:s=x.yC
 ·subst e
  rw[atKey_put_same h.1 hk,xG ⟨k,x,by omega,hx,rfl⟩]
 ·rw[atKey_put_other (lit_s_ne e),h.2 s]
  refine congrArg (fun b=>DataW.lit (Lit.bool b)) ?_
  apply tf_iff
  constructor
  ·rintro⟨j,y,h1,h2,h3⟩;exact⟨j,y,by omega,h2,h3⟩
  ·rintro⟨j,y,h1,h2,h3⟩
   by_cases ej:j=k
   ·subst ej
    rw[hx] at h2;injection h2 with h2;subst h2;exact absurd h3.symm e
   ·exact⟨j,y,by omega,h2,h3⟩
theorem c_isMixer (x:uP) (cs:List Value) (w:World) (hn:x.zF.length≤1048576) (h:T.rds w x.fs cs):Calls Tryz.prog 49 #[.agg cs.toArray] w fun e w'=>e= .returned (.bool (tf (MixerOk x)))∧Below w.heap.size w w':=by
 obtain⟨v0,rfl,h0⟩:=uP.yR h;clear h;obtain⟨va0,vc0,rfl,vl0,vm0,R0,HX0⟩:=oG h0;clear h0;have HB0:=xL (show Below w.heap.size w (w.alloc (.cells #[(.slice va0 x.zF.length vc0)] 30)) from zR.alloc zJ _);have HK0:=xL (Bk.born w 30 #[(.slice va0 x.zF.length vc0)]);have hmm:= @run_makeMap Tryz.prog;have HB1:=xL (show Below w.heap.size w ((w.alloc (.cells #[(.slice va0 x.zF.length vc0)] 30)).alloc (.map #[] 0)) from HB0.out.alloc (by simp) _);have HK1:=xL (HK0.out.alloc (.map #[] 0));have e1:(w.alloc (.cells #[(.slice va0 x.zF.length vc0)] 30)).heap.size=w.heap.size+1:=by simp
 have hm1:((w.alloc (.cells #[(.slice va0 x.zF.length vc0)] 30)).alloc (.map #[] 0)).ownsMap Tryz.prog 9 (plainElem (H:=Unit) Tryz.prog 4) (w.heap.size+1) 0 (.map []):=by have:=World.ownsMap_made (w.alloc (.cells #[(.slice va0 x.zF.length vc0)] 30)) Tryz.prog 9 (plainElem (H:=Unit) Tryz.prog 4);rwa [e1] at this
 have HM1:=xL hm1;clear hm1 e1
 go_enter Tryz.func49,Tryz.ntmps49
 go_wp2_with (go_at_call 46;refine(vI _ _ _ _ zM).mono ?_;rintro e w' ⟨rfl,rfl⟩)
 go_loopw [14] (fun i wr=> ∃ (k:Nat) (D:DataW Unit),k≤x.zF.length∧i= .int .i64 k∧wr.ownsMap Tryz.prog 9 (plainElem (H:=Unit) Tryz.prog 4) (w.heap.size+1) k D∧Nms x.zF k D∧vF x.zF (fun i x_1=>StripOk x_1 (i:Int) (x.zF.length:Int)∧ ∀ j y,j<i→x.zF[j]?=some y→y.yC≠x_1.yC) k∧Bk wr w.heap.size 30 #[(.slice va0 x.zF.length vc0)]∧Below w.heap.size w wr) (fun i _=>x.zF.length - (intOf i).toNat)
 case atStart=>exact⟨0,_,Nat.zero_le _,rfl,HM1.out,Nms.zero _,vF.zero,HK1.out,HB1.out⟩
 case round=>
  obtain⟨k,D,hk,rfl,hm,hnm,hs,hbk,hbw⟩:=hrel;have HM:=xL hm;have HN:=xL hnm;have HS:=xL hs;have HK:=xL hbk;have HB:=xL hbw;clear hm hnm hs hbk hbw;have ka:=HK.out.cell;have la:=HK.out.lt;have hsz:=HB.out.size;have lm:=HM.out.lt;by_cases hlt:k<x.zF.length
  rotate_left
  ·have hall:=xL (HS.out.all zM);clear HS
   go_wp2_with (go_at_call 47;refine(xU _ _ _ _).mono ?_;rintro e w' ⟨rfl,rfl⟩)
   go_ret
   exact⟨yK (by
   by_cases h:1≤x.zF.length∧x.zF.length≤8
   ·rw[xG ⟨h.1,h.2,hall.out⟩];exact xI.2 zM
   ·rw[xE fun hh=>h ⟨hh.some_,hh.few⟩];exact inB_false.2 zM),HB.out⟩
  have hgk:=gE hlt;obtain⟨b1,off,cs1,hA,hb1,hcs,hcell⟩:=HX0.out k x.zF[k] hgk;subst hA;generalize x.zF[k]=y at *;have HG:=xL hgk;clear hgk;obtain⟨u2,rfl,hRY2⟩:=xO.yR (show T.rds _ _ _ by simpa only[xO.t,T.rd] using hcs);have d0:=(HB.out.cell hb1).trans (hcell 0 (.string y.yC) rfl);have d1:=(HB.out.cell hb1).trans (hcell 1 (.int .i64 y.yA) rfl);have d2:=(HB.out.cell hb1).trans (hcell 2 (u2) rfl);rw[show off+(k * 3+0)=off+k * 3 by omega] at d0;rw[show off+(k * 3+1)=off+k * 3+1 by omega] at d1;rw[show off+(k * 3+2)=off+k * 3+2 by omega] at d2;have RY2:=xL (T.yH hRY2 HB.out);clear hRY2;clear hcs hcell;obtain⟨ua2,ul2,uc2,rfl⟩:=T.xB RY2.out;have hq1:b1<wr.heap.size:=zW hb1 HB.out.size;have HW:=xL (show Below wr.heap.size wr (wr.alloc (.cells #[.string y.yC,.int .i64 y.yA,.slice ua2 ul2 uc2] 74)) from zR.alloc zJ _);have HBW:=xL (yM HB.out HB.out.size HW.out);by_cases q1:NameOk y.yC
  rotate_left
  ·have a1:=xE q1;have Q1:=xL q1;clear q1
   go_wp2_with (go_at_call 86;refine(wXz _ _).mono ?_;rintro e w' ⟨rfl,rfl⟩;rw[a1])
   go_ret
   exact⟨yK (xE fun h=>Q1.out (h.each k y HG.out).1.name).symm,HBW.out⟩
  have a1:=xG q1;have Q1:=xL q1;clear q1;have hz:(zeroValue 4).run Tryz.prog (wr.alloc (.cells #[.string y.yC,.int .i64 y.yA,.slice ua2 ul2 uc2] 74))= .ok (.bool false) (wr.alloc (.cells #[.string y.yC,.int .i64 y.yA,.slice ua2 ul2 uc2] 74)):=by kernel_rfl
  have hsn:y.yC.size≤maxLen:=by have:=Q1.out.few;unfold maxLen;omega
  have hkey:=keyOf_string_mk Tryz.underlying9 hsn;obtain⟨c,hrun,hat⟩:=lookup_bool (HM.out.alloc (.cells #[.string y.yC,.int .i64 y.yA,.slice ua2 ul2 uc2] 74)) key_s Tryz.underlying141 Tryz.underlying4 hz hkey;rw[HN.out.2 y.yC] at hat;injection hat with hat;injection hat with hat;have HKEY:=xL hkey;clear hkey hz hsn;by_cases q2: ∃ j z,j<k∧x.zF[j]?=some z∧z.yC=y.yC
  ·rw[xG q2] at hat;subst hat
   have Q2:=xL q2;clear q2;go_wp2_with (go_at_call 86;refine(wXz _ _).mono ?_;rintro e w' ⟨rfl,rfl⟩;rw[a1])
   go_ret
   exact⟨yK (xE fun h=>by obtain⟨j,z,h1,h2,h3⟩:=Q2.out;exact(h.each k y HG.out).2 j z h1 h2 h3).symm,HBW.out⟩
  rw[xE q2] at hat;subst hat;have Q2:=xL q2;clear q2;by_cases q3:inB y.yA 0 32=true
  rotate_left
  ·have q3':inB y.yA 0 32=false:=by simpa using q3
   go_wp2_with (first|(go_at_call 86;refine(wXz _ _).mono ?_;rintro e w' ⟨rfl,rfl⟩;rw[a1])|(go_at_call 47;refine(xU _ _ _ _).mono ?_;rintro e w' ⟨rfl,rfl⟩))
   go_ret
   exact⟨yK (xE fun h=>q3 (h.each k y HG.out).1.latency).symm,HBW.out⟩
  go_wp2_with (first|(go_at_call 86;refine(wXz _ _).mono ?_;rintro e w' ⟨rfl,rfl⟩;rw[a1])|(go_at_call 47;refine(xU _ _ _ _).mono ?_;rintro e w' ⟨rfl,rfl⟩))
  refine(c_areSends _ y.zV (k:Int) (x.zF.length:Int) _ zM zM zM zM (T.yH RY2.out HW.out)).mono ?_;rintro e w3 ⟨rfl,hb3⟩;have HM3:=xL ((HM.out.alloc (.cells #[.string y.yC,.int .i64 y.yA,.slice ua2 ul2 uc2] 74)).kept (grown_of_below hb3 none) (by simp));have HK3:=xL ((HK.out.alloc (.cells #[.string y.yC,.int .i64 y.yA,.slice ua2 ul2 uc2] 74)).below hb3 (by simp;omega));have HN3:=xL ((Bk.born wr 74 #[.string y.yC,.int .i64 y.yA,.slice ua2 ul2 uc2]).below hb3 (by simp));have HB3:=xL (yM HBW.out HBW.out.size hb3);clear hb3 ka la lm hsz hrun;have ka:=HK3.out.cell;have kn:=HN3.out.cell;have hsz:=HB3.out.size;by_cases q4:xAz y.zV (k:Int) (x.zF.length:Int)
  rotate_left
  ·rw[xE q4];have Q4:=xL q4;clear q4
   go_wp2;go_ret
   exact⟨yK (xE fun h=>Q4.out (h.each k y HG.out).1.sends).symm,HB3.out⟩
  rw[xG q4];have Q4:=xL q4;have Q3:=xL q3;clear q4 q3;go_wp2_with (at_mapUpdate;refine wpList_mapUpdate_own _ rfl _ _ _ _ rfl _ _ key_s Tryz.underlying141 _ _ _ _ rfl HM3.out (by unfold maxLen;omega) _ _ _ rfl rfl HKEY.out _ [] (plainElem_bool Tryz.underlying4 true) ?_;intro w5 hown5 hg5;have HM5:=xL hown5;have HK5:=xL (HK3.out.grown hg5 (by simp));have HB5:=xL (HB3.out.grown hg5 HB3.out.size (fun j hj=>by cases hj;omega));clear hown5 hg5)
  go_roundw
  case rel=>exact⟨k+1,_,by omega,by go_num,HM5.out,HN.out.step HG.out trivial,HS.out.step HG.out ⟨⟨Q1.out,Q3.out,Q4.out⟩,fun j z h1 h2 h3=>Q2.out ⟨j,z,h1,h2,h3⟩⟩,HK5.out,HB5.out⟩
  case measure=>simp[intOf];omega
end
section
open Go.RowKit
def kndNames:List (List UInt8):= [[105,110,112,117,116],[99,111,110,115,116],[97,100,100],[115,117,98],[103,97,105,110],[100,101,108,97,121],[115,117,109],[100,105,102,102],[109,117,108],[115,104,105,102,116],[99,108,105,112],[112,104,97,115,101],[116,97,98,108,101],[110,111,105,115,101],[115,101,108,101,99,116],[104,111,108,100],[99,111,109,98]]
def kndName (i:Nat):ByteArray:=⟨(kndNames.getD i []).toArray⟩
def zOz:Array Value:= #[.string ⟨#[105,110,112,117,116]⟩,.int .i64 0,.int .i64 0,.int .i64 3,.bool true,.bool false,.string ⟨#[99,111,110,115,116]⟩,.int .i64 0,.int .i64 (-2147483648),.int .i64 2147483647,.bool false,.bool false,.string ⟨#[97,100,100]⟩,.int .i64 2,.int .i64 1,.int .i64 0,.bool true,.bool false,.string ⟨#[115,117,98]⟩,.int .i64 2,.int .i64 1,.int .i64 0,.bool true,.bool false,.string ⟨#[103,97,105,110]⟩,.int .i64 1,.int .i64 (-2147483648),.int .i64 2147483647,.bool true,.bool false,.string ⟨#[100,101,108,97,121]⟩,.int .i64 1,.int .i64 1,.int .i64 16,.bool true,.bool false,.string ⟨#[115,117,109]⟩,.int .i64 1,.int .i64 1,.int .i64 0,.bool true,.bool false,.string ⟨#[100,105,102,102]⟩,.int .i64 1,.int .i64 1,.int .i64 0,.bool true,.bool false,.string ⟨#[109,117,108]⟩,.int .i64 2,.int .i64 1,.int .i64 0,.bool false,.bool false,.string ⟨#[115,104,105,102,116]⟩,.int .i64 1,.int .i64 0,.int .i64 31,.bool false,.bool false,.string ⟨#[99,108,105,112]⟩,.int .i64 1,.int .i64 0,.int .i64 2147483647,.bool false,.bool false,.string ⟨#[112,104,97,115,101]⟩,.int .i64 1,.int .i64 (-2147483648),.int .i64 2147483647,.bool false,.bool false,.string ⟨#[116,97,98,108,101]⟩,.int .i64 1,.int .i64 0,.int .i64 3,.bool false,.bool false,.string ⟨#[110,111,105,115,101]⟩,.int .i64 0,.int .i64 (-2147483648),.int .i64 2147483647,.bool false,.bool false,.string ⟨#[115,101,108,101,99,116]⟩,.int .i64 3,.int .i64 1,.int .i64 0,.bool false,.bool false,.string ⟨#[104,111,108,100]⟩,.int .i64 2,.int .i64 1,.int .i64 0,.bool false,.bool false,.string ⟨#[99,111,109,98]⟩,.int .i64 1,.int .i64 (-2147483648),.int .i64 2147483647,.bool true,.bool true]
theorem c_kinds (w:World):Calls Tryz.prog 169 #[] w fun e w'=>e= .returned (.slice (some ⟨w.heap.size,0,none⟩) 17 17)∧w'=w.alloc (.cells zOz 201):=by
 go_enter Tryz.func169,Tryz.ntmps169
 go_wp2;go_ret
 exact⟨rfl,rfl⟩
theorem kndCells_at {i:Nat} (h:i<17):zOz[i * 6]?=some (.string (kndName i))∧zOz[i * 6+1]?=some (.int .i64 (kndL.getD i ⟨0,0,0,false,false⟩).inputs)∧zOz[i * 6+2]?=some (.int .i64 (kndL.getD i ⟨0,0,0,false,false⟩).low)∧zOz[i * 6+3]?=some (.int .i64 (kndL.getD i ⟨0,0,0,false,false⟩).high)∧zOz[i * 6+4]?=some (.bool (kndL.getD i ⟨0,0,0,false,false⟩).linear)∧zOz[i * 6+5]?=some (.bool (kndL.getD i ⟨0,0,0,false,false⟩).hasB):=by
 have:i=0∨i=1∨i=2∨i=3∨i=4∨i=5∨i=6∨i=7∨i=8∨i=9∨i=10∨i=11∨i=12∨i=13∨i=14∨i=15∨i=16:=by omega
 rcases this with rfl|rfl|rfl|rfl|rfl|rfl|rfl|rfl|rfl|rfl|rfl|rfl|rfl|rfl|rfl|rfl|rfl
 all_goals exact⟨rfl,rfl,rfl,rfl,rfl,rfl⟩
theorem c_isKind (n:Int) (w:World):Calls Tryz.prog 168 #[.int .i64 n] w fun e w'=>e= .returned (.bool (inB n 1 17))∧w=w':=by
 go_enter Tryz.func168,Tryz.ntmps168
 go_wp2_with (go_at_call 47;refine(xU _ _ _ _).mono ?_;rintro e w' ⟨rfl,rfl⟩)
 go_ret
 exact⟨rfl,rfl⟩
theorem c_hasA (s:ByteArray) (a lo hi:Int) (l hb:Bool) (w:World):Calls Tryz.prog 170 #[.agg #[.string s,.int .i64 a,.int .i64 lo,.int .i64 hi,.bool l,.bool hb]] w fun e w'=>e= .returned (.bool (decide (lo≤hi)))∧Below w.heap.size w w':=by
 have HB:=xL (show Below w.heap.size w (w.alloc (.cells #[.string s,.int .i64 a,.int .i64 lo,.int .i64 hi,.bool l,.bool hb] 201)) from zR.alloc zJ _)
 go_enter Tryz.func170,Tryz.ntmps170
 go_wp2;go_ret
 exact⟨rfl,HB.out⟩
end
end Go.Proofs.YtdcofkabaigjpaaGreat
