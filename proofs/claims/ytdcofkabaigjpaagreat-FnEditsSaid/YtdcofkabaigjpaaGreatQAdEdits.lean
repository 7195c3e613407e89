/- Contracts: what is valid, by the program: lists, clips, names, sends. Contracts: check values, two bytes, the head of a store. Contracts: what is valid, by the program: names, sends, mixers, tracks. Contracts: what is valid, by the program: tracks, mixers. Contracts: what is valid, by the program: mixers. Contracts: what is valid, by the program: kinds, nodes. -/
import Derived.Test.YtdcofkabaigjpaaGreatQAcEdits
import Derived.Deep.RegionHeld3
import Derived.Deep.RegionWith
import Derived.Maps.Own
import Derived.Test.YtdcofkabaigjpaaGreatQAbEdits
import Derived.Maps.OwnOps
import Derived.Maps.Views
set_option linter.unusedVariables false
set_option linter.unusedSimpArgs false
set_option maxHeartbeats 2000000
set_option maxRecDepth 20000
namespace Go.Proofs.YtdcofkabaigjpaaGreat
section
open Go.RowKit
theorem xK {n a b:Int} :inB n a b=true↔a≤n∧n≤b:=by simp[inB]
theorem inB_not {n a b:Int} (h:inB n a b=false) (k:a≤n∧n≤b):False:=by simp[inB] at h;omega
theorem wZ (v:Value) (xs:List Int) (n:Int) (w:World) (hr:RdI w v xs) (h0:0≤n) (h1:n≤9223372036854775807):Calls Tryz.prog 50 #[v,.int .i64 n] w fun e w'=>e= .returned (.bool (tf (Idx xs n)))∧w=w':=by
 obtain⟨A,cap,rfl,hl,hc,hx⟩:=hr.open_;have HX:=xN hx;clear hx hr
 go_enter Tryz.func50,Tryz.ntmps50
 go_wp2
 go_loop [9] (fun i=> ∃ k:Nat,k≤xs.length∧i= .int .i64 k∧vU xs (fun _ x=>0≤x∧x≤n - 1) k) (fun i=>xs.length - (intOf i).toNat)
 case atStart=>exact⟨0,Nat.zero_le _,rfl,vU.zero⟩
 case round=>
  obtain⟨k,hk,rfl,hs⟩:=hrel;have HS:=xN hs;clear hs;by_cases hlt:k<xs.length
  ·have hgk:=gE hlt
   obtain⟨b,off,rfl,hb,hcell⟩:=HX.o k xs[k] hgk;generalize xs[k]=x at *;have HG:=xN hgk;clear hgk;by_cases hq:inB x 0 (n - 1)=true
   ·go_wp2_with (go_at_call 47;refine(xX _ _ _ _).mono ?_;rintro e w' ⟨rfl,rfl⟩)
    go_round
    case rel=>exact⟨k+1,by omega,by go_num,HS.o.step HG.o (xK.1 hq)⟩
    case measure=>simp[intOf];omega
   ·have hq':inB x 0 (n - 1)=false:=by simpa using hq
    clear hq;go_wp2_with (go_at_call 47;refine(xX _ _ _ _).mono ?_;rintro e w' ⟨rfl,rfl⟩)
    go_ret
    exact⟨yN (xH (fun hh=>inB_not hq' (hh k x HG.o))).symm,rfl⟩
  ·have hall:=xN (HS.o.all zM)
   go_wp2;go_ret
   exact⟨yN ((xI hall.o).symm),rfl⟩
theorem c_areSignals (v:Value) (xs:List (List Int)) (w:World) (hr:T.rd w (T.sl 26 1 (xs.map (T.ints 2))) [v]):Calls Tryz.prog 85 #[v] w fun e w'=>e= .returned (.bool (tf (Each xs fun _ l=>sigB l=true)))∧w=w':=by
 obtain⟨A,cap,rfl,hl,hc,hx⟩:=T.yS hr;have HX:=xN hx;clear hx hr
 go_enter Tryz.func85,Tryz.ntmps85
 go_wp2
 go_loop [7] (fun i=> ∃ k:Nat,k≤xs.length∧i= .int .i64 k∧vU xs (fun _ l=>sigB l=true) k) (fun i=>xs.length - (intOf i).toNat)
 case atStart=>exact⟨0,Nat.zero_le _,rfl,vU.zero⟩
 case round=>
  obtain⟨k,hk,rfl,hs⟩:=hrel;have HS:=xN hs;clear hs;by_cases hlt:k<xs.length
  ·have hgk:=gE hlt
   obtain⟨b,off,cs,rfl,hb,hcs,hcell⟩:=HX.o k xs[k] hgk;generalize xs[k]=l at *;have HG:=xN hgk;clear hgk;obtain⟨v3,rfl⟩:=T.rd_one hcs;have d0:=hcell 0 v3 rfl;rw[Nat.mul_one,Nat.add_zero] at d0;have R:=xN (T.xB.1 hcs);clear hcs hcell;obtain⟨A3,c3,rfl,l3,m3,x3⟩:=R.o.open_;clear x3;by_cases hq:sigB l=true
   ·go_wp2_with (go_at_call 122;refine(c_isSignal _ l _ R.o).mono ?_;rintro e w' ⟨rfl,rfl⟩)
    go_round
    case rel=>exact⟨k+1,by omega,by go_num,HS.o.step HG.o hq⟩
    case measure=>simp[intOf];omega
   ·have hq':sigB l=false:=by simpa using hq
    clear hq;go_wp2_with (go_at_call 122;refine(c_isSignal _ l _ R.o).mono ?_;rintro e w' ⟨rfl,rfl⟩)
    go_ret
    exact⟨yN (xH (fun hh=>by rw[hh k l HG.o] at hq';exact absurd hq' (by simp))).symm,rfl⟩
  ·have hall:=xN (HS.o.all zM);clear HS
   go_wp2;go_ret
   exact⟨yN (xI hall.o).symm,rfl⟩
theorem zTz (v:Value) (xs:List (List Int)) (w:World) (hr:T.rd w (T.sl 26 1 (xs.map (T.ints 2))) [v]):Calls Tryz.prog 48 #[v] w fun e w'=>e= .returned (.bool (tf (xGz xs)))∧w=w':=by
 have R:=xN hr;obtain⟨A,cap,rfl,hl,hc,hx⟩:=T.yS hr;clear hx hr;by_cases h6:xs.length≤6
 ·go_enter Tryz.func48,Tryz.ntmps48
  go_wp2_with (go_at_call 85;refine(c_areSignals _ xs _ R.o).mono ?_;rintro e w' ⟨rfl,rfl⟩)
  go_ret
  exact⟨yN (tf_iff ⟨fun h=>⟨h,h6⟩,fun h=>h.each⟩),rfl⟩
 ·go_enter Tryz.func48,Tryz.ntmps48
  go_wp2;go_ret
  exact⟨yN (xH fun h=>h6 h.few).symm,rfl⟩
theorem xHz (v:Value) (xs:List (List Int)) (w:World) (hr:T.rd w (T.sl 26 1 (xs.map (T.ints 2))) [v]):Calls Tryz.prog 153 #[v] w fun e w'=>e= .returned (.bool (tf (vAz xs)))∧w=w':=by
 obtain⟨A,cap,rfl,hl,hc,hx⟩:=T.yS hr;have HX:=xN hx;clear hx hr
 go_enter Tryz.func153,Tryz.ntmps153
 go_wp2
 go_loop [8] (fun i=> ∃ k:Nat,k≤xs.length∧i= .int .i64 k∧vU xs (fun _ t=>(t.length=2∨t.length=4∨t.length=8∨t.length=16)∧smpB t=true) k) (fun i=>xs.length - (intOf i).toNat)
 case atStart=>exact⟨0,Nat.zero_le _,rfl,vU.zero⟩
 case round=>
  obtain⟨k,hk,rfl,hs⟩:=hrel;have HS:=xN hs;clear hs;by_cases hlt:k<xs.length
  ·have hgk:=gE hlt
   obtain⟨b,off,cs,rfl,hb,hcs,hcell⟩:=HX.o k xs[k] hgk;generalize xs[k]=l at *;have HG:=xN hgk;clear hgk;obtain⟨v3,rfl⟩:=T.rd_one hcs;have d0:=hcell 0 v3 rfl;rw[Nat.mul_one,Nat.add_zero] at d0;have R:=xN (T.xB.1 hcs);clear hcs hcell;obtain⟨A3,c3,rfl,l3,m3,x3⟩:=R.o.open_;clear x3;by_cases hn:l.length=2∨l.length=4∨l.length=8∨l.length=16
   ·by_cases hq:smpB l=true
    ·rcases hn with hn|hn|hn|hn
     ·skip
      have n2:((l.length:Int) != 2)=false:=by simp;omega
      clear hn;have hn:l.length=2∨l.length=4∨l.length=8∨l.length=16:=by simp at n2;omega
      have HN:=xN hn;clear hn;go_wp2_with (go_at_call 148;refine(uY _ l _ R.o).mono ?_;rintro e w' ⟨rfl,rfl⟩)
      go_round
      case rel=>exact⟨k+1,by omega,by go_num,HS.o.step HG.o ⟨HN.o,hq⟩⟩
      case measure=>simp[intOf];omega
     ·skip
      have n2:((l.length:Int) != 2)=true:=by simp;omega
      have n4:((l.length:Int) != 4)=false:=by simp;omega
      clear hn;have hn:l.length=2∨l.length=4∨l.length=8∨l.length=16:=by simp at n4;omega
      have HN:=xN hn;clear hn;go_wp2_with (go_at_call 148;refine(uY _ l _ R.o).mono ?_;rintro e w' ⟨rfl,rfl⟩)
      go_round
      case rel=>exact⟨k+1,by omega,by go_num,HS.o.step HG.o ⟨HN.o,hq⟩⟩
      case measure=>simp[intOf];omega
     ·skip
      have n2:((l.length:Int) != 2)=true:=by simp;omega
      have n4:((l.length:Int) != 4)=true:=by simp;omega
      have n8:((l.length:Int) != 8)=false:=by simp;omega
      clear hn;have hn:l.length=2∨l.length=4∨l.length=8∨l.length=16:=by simp at n8;omega
      have HN:=xN hn;clear hn;go_wp2_with (go_at_call 148;refine(uY _ l _ R.o).mono ?_;rintro e w' ⟨rfl,rfl⟩)
      go_round
      case rel=>exact⟨k+1,by omega,by go_num,HS.o.step HG.o ⟨HN.o,hq⟩⟩
      case measure=>simp[intOf];omega
     ·skip
      have n2:((l.length:Int) != 2)=true:=by simp;omega
      have n4:((l.length:Int) != 4)=true:=by simp;omega
      have n8:((l.length:Int) != 8)=true:=by simp;omega
      have n16:((l.length:Int) != 16)=false:=by simp;omega
      clear hn;have hn:l.length=2∨l.length=4∨l.length=8∨l.length=16:=by simp at n16;omega
      have HN:=xN hn;clear hn;go_wp2_with (go_at_call 148;refine(uY _ l _ R.o).mono ?_;rintro e w' ⟨rfl,rfl⟩)
      go_round
      case rel=>exact⟨k+1,by omega,by go_num,HS.o.step HG.o ⟨HN.o,hq⟩⟩
      case measure=>simp[intOf];omega
    ·have hq':smpB l=false:=by simpa using hq
     clear hq
     rcases hn with hn|hn|hn|hn
     ·skip
      have n2:((l.length:Int) != 2)=false:=by simp;omega
      clear hn;go_wp2_with (go_at_call 148;refine(uY _ l _ R.o).mono ?_;rintro e w' ⟨rfl,rfl⟩)
      go_ret
      exact⟨yN (xH (fun hh=>by rw[(hh.each k l HG.o).2] at hq';exact absurd hq' (by simp))).symm,rfl⟩
     ·skip
      have n2:((l.length:Int) != 2)=true:=by simp;omega
      have n4:((l.length:Int) != 4)=false:=by simp;omega
      clear hn;go_wp2_with (go_at_call 148;refine(uY _ l _ R.o).mono ?_;rintro e w' ⟨rfl,rfl⟩)
      go_ret
      exact⟨yN (xH (fun hh=>by rw[(hh.each k l HG.o).2] at hq';exact absurd hq' (by simp))).symm,rfl⟩
     ·skip
      have n2:((l.length:Int) != 2)=true:=by simp;omega
      have n4:((l.length:Int) != 4)=true:=by simp;omega
      have n8:((l.length:Int) != 8)=false:=by simp;omega
      clear hn;go_wp2_with (go_at_call 148;refine(uY _ l _ R.o).mono ?_;rintro e w' ⟨rfl,rfl⟩)
      go_ret
      exact⟨yN (xH (fun hh=>by rw[(hh.each k l HG.o).2] at hq';exact absurd hq' (by simp))).symm,rfl⟩
     ·skip
      have n2:((l.length:Int) != 2)=true:=by simp;omega
      have n4:((l.length:Int) != 4)=true:=by simp;omega
      have n8:((l.length:Int) != 8)=true:=by simp;omega
      have n16:((l.length:Int) != 16)=false:=by simp;omega
      clear hn;go_wp2_with (go_at_call 148;refine(uY _ l _ R.o).mono ?_;rintro e w' ⟨rfl,rfl⟩)
      go_ret
      exact⟨yN (xH (fun hh=>by rw[(hh.each k l HG.o).2] at hq';exact absurd hq' (by simp))).symm,rfl⟩
   ·have n2:((l.length:Int) != 2)=true:=by simp;omega
    have n4:((l.length:Int) != 4)=true:=by simp;omega
    have n8:((l.length:Int) != 8)=true:=by simp;omega
    have n16:((l.length:Int) != 16)=true:=by simp;omega
    go_wp2;go_ret
    exact⟨yN (xH (fun hh=>hn (hh.each k l HG.o).1)).symm,rfl⟩
  ·have hall:=xN (HS.o.all zM);clear HS
   by_cases h4:xs.length≤4
   ·go_wp2
    go_ret
    exact⟨yN (by rw[xI ⟨hall.o,h4⟩];simp;omega),rfl⟩
   ·go_wp2
    go_ret
    exact⟨yN (by rw[xH fun h=>h4 h.few];simp;omega),rfl⟩
theorem vBz (x:xU) (cs:List Value) (w:World) (h:T.rds w x.fs cs):Calls Tryz.prog 88 #[.agg cs.toArray] w fun e w'=>e= .returned (.bool (tf (zLz x)))∧Below w.heap.size w w':=by
 obtain rfl:=xU.yT h;clear h;obtain⟨HB0,HK0⟩:=aK w 39 #[.int .i64 x.zV,.int .i64 x.zO,.int .i64 x.zB,.int .i64 x.yE,.int .i64 x.yB]
 go_enter Tryz.func88,Tryz.ntmps88
 by_cases h1:inB x.zV 0 5=true
 rotate_left
 ·have hq:inB x.zV 0 5=false:=by simpa using h1
  go_wp2_with (go_at_call 47;refine(xX _ _ _ _).mono ?_;rintro e w' ⟨rfl,rfl⟩)
  go_ret
  exact⟨yN (xH fun hh=>by exact h1 hh.source).symm,HB0.o⟩
 by_cases h2:inB x.zB 1 4000=true
 rotate_left
 ·have hq:inB x.zB 1 4000=false:=by simpa using h2
  go_wp2_with (go_at_call 47;refine(xX _ _ _ _).mono ?_;rintro e w' ⟨rfl,rfl⟩)
  go_ret
  exact⟨yN (xH fun hh=>by exact h2 hh.length).symm,HB0.o⟩
 have hb:=xK.1 h2;by_cases h3:inB x.zO 0 (4000 - x.zB)=true
 rotate_left
 ·have hq:inB x.zO 0 (4000 - x.zB)=false:=by simpa using h3
  go_wp2_with (go_at_call 47;refine(xX _ _ _ _).mono ?_;rintro e w' ⟨rfl,rfl⟩)
  go_ret
  exact⟨yN (xH fun hh=>by exact h3 hh.from_).symm,HB0.o⟩
 by_cases h4:inB x.yE 0 (4000 - x.zB)=true
 rotate_left
 ·have hq:inB x.yE 0 (4000 - x.zB)=false:=by simpa using h4
  go_wp2_with (go_at_call 47;refine(xX _ _ _ _).mono ?_;rintro e w' ⟨rfl,rfl⟩)
  go_ret
  exact⟨yN (xH fun hh=>by exact h4 hh.at_).symm,HB0.o⟩
 by_cases h5:Smp x.yB
 rotate_left
 ·have hq:decide (Smp x.yB)=false:=by simpa using h5
  go_wp2_with (first|(go_at_call 47;refine(xX _ _ _ _).mono ?_;rintro e w' ⟨rfl,rfl⟩)|(go_at_call 95;refine(yMz _ _).mono ?_;rintro e w' ⟨rfl,rfl⟩))
  go_ret
  exact⟨yN (xH fun hh=>by exact h5 hh.gain).symm,HB0.o⟩
 have hq:decide (Smp x.yB)=true:=by simpa using h5
 go_wp2_with (first|(go_at_call 47;refine(xX _ _ _ _).mono ?_;rintro e w' ⟨rfl,rfl⟩)|(go_at_call 95;refine(yMz _ _).mono ?_;rintro e w' ⟨rfl,rfl⟩))
 go_ret
 exact⟨yN (by rw[xI ⟨h1,h2,h3,h4,h5⟩]),HB0.o⟩
end
section
open Go.RowKit
end
section
open Go.RowKit Go.WideMaps Go.Maps
theorem uG (A:Option Addr) (n c:Nat) (w:World) (h:n≤9223372036854775807):Calls Tryz.prog 46 #[.slice A n c] w fun e w'=>e= .returned (.int .i64 (n:Int))∧w=w':=by
 go_enter Tryz.func46,Tryz.ntmps46
 go_wp2;go_ret
 exact⟨rfl,rfl⟩
theorem yAz (A:Option Addr) (n c:Nat) (w:World) (h:n≤9223372036854775807):Calls Tryz.prog 51 #[.slice A n c] w fun e w'=>e= .returned (.int .i64 (n:Int))∧w=w':=by
 go_enter Tryz.func51,Tryz.ntmps51
 go_wp2;go_ret
 exact⟨rfl,rfl⟩
theorem xKz (A:Option Addr) (n c:Nat) (w:World) (h:n≤9223372036854775807):Calls Tryz.prog 54 #[.slice A n c] w fun e w'=>e= .returned (.int .i64 (n:Int))∧w=w':=by
 go_enter Tryz.func54,Tryz.ntmps54
 go_wp2;go_ret
 exact⟨rfl,rfl⟩
theorem yHy (A:Option Addr) (n c:Nat) (w:World) (h:n≤9223372036854775807):Calls Tryz.prog 94 #[.slice A n c] w fun e w'=>e= .returned (.int .i64 (n:Int))∧w=w':=by
 go_enter Tryz.func94,Tryz.ntmps94
 go_wp2;go_ret
 exact⟨rfl,rfl⟩
theorem c_sizeTrack (A:Option Addr) (n c:Nat) (w:World) (h:n≤9223372036854775807):Calls Tryz.prog 96 #[.slice A n c] w fun e w'=>e= .returned (.int .i64 (n:Int))∧w=w':=by
 go_enter Tryz.func96,Tryz.ntmps96
 go_wp2;go_ret
 exact⟨rfl,rfl⟩
theorem c_sizeClip (A:Option Addr) (n c:Nat) (w:World) (h:n≤9223372036854775807):Calls Tryz.prog 97 #[.slice A n c] w fun e w'=>e= .returned (.int .i64 (n:Int))∧w=w':=by
 go_enter Tryz.func97,Tryz.ntmps97
 go_wp2;go_ret
 exact⟨rfl,rfl⟩
theorem xXz (A:Option Addr) (n c:Nat) (w:World) (h:n≤9223372036854775807):Calls Tryz.prog 152 #[.slice A n c] w fun e w'=>e= .returned (.int .i64 (n:Int))∧w=w':=by
 go_enter Tryz.func152,Tryz.ntmps152
 go_wp2;go_ret
 exact⟨rfl,rfl⟩
theorem ySy (s:ByteArray) (w:World):Calls Tryz.prog 86 #[.string s] w fun e w'=>e= .returned (.bool (tf (NameOk s)))∧w=w':=by
 by_cases h1:1≤s.size
 rotate_left
 ·go_enter Tryz.func86,Tryz.ntmps86
  go_wp2;go_ret
  exact⟨yN (xH fun h=>h1 h.some_).symm,rfl⟩
 by_cases h2:s.size≤10
 rotate_left
 ·go_enter Tryz.func86,Tryz.ntmps86
  go_wp2;go_ret
  exact⟨yN (xH fun h=>h2 h.few).symm,rfl⟩
 go_enter Tryz.func86,Tryz.ntmps86
 go_wp2
 go_loop [3] (fun i=> ∃ k:Nat,k≤s.size∧i= .int .i64 k∧ ∀ i,i<k→uBz (bA s i)∨(uCz (bA s i)∧i≠0)) (fun i=>s.size - (intOf i).toNat)
 case atStart=>exact⟨0,Nat.zero_le _,rfl,fun i h=>absurd h zM⟩
 case round=>
  obtain⟨k,hk,rfl,hs⟩:=hrel;have HS:=xN hs;clear hs;by_cases hlt:k<s.size
  ·have hb:=bA_lt s k
   have hg:=bA_get hlt;have HX:Sec (∀ p:Prop,p→p):=⟨fun _ h=>h⟩;generalize hy:bA s k=y at *;have HY:=xN hy;clear hy;by_cases a1:97≤y
   ·by_cases a2:y≤122
    ·by_cases a3:48≤y
     ·by_cases a4:y≤57
      ·omega
      ·have n1:decide ((y:Int)≤122)=true:=decide_eq_true zM
       have n2:decide ((y:Int)≤57)=false:=decide_eq_false zM;go_wp2
       go_round
       case rel=>exact⟨k+1,by omega,by go_num,fun i hi=>by
        by_cases e:i=k
        ·subst e;rw[HY.o];exact .inl ⟨a1,a2⟩
        ·exact HS.o i zM⟩
       case measure=>simp[intOf];omega
     ·omega
    ·by_cases a4:y≤57
     ·omega
     ·have n1:decide ((y:Int)≤122)=false:=decide_eq_false zM
      have n2:decide ((y:Int)≤57)=false:=decide_eq_false zM;go_wp2;go_ret
      exact⟨yN (xH fun h=>by rcases h.each k hlt with h|h<;>rw[HY.o] at h<;>(simp only[uBz,uCz] at h;omega)).symm,rfl⟩
   ·by_cases a3:48≤y
    ·by_cases a4:y≤57
     ·have n2:decide ((y:Int)≤57)=true:=decide_eq_true zM
      by_cases a5:k=0
      ·subst a5
       go_wp2;go_ret
       exact⟨yN (xH fun h=>by rcases h.each 0 hlt with h|h<;>rw[HY.o] at h<;>(simp only[uBz,uCz] at h;omega)).symm,rfl⟩
      ·have a6:((k:Int) == 0)=false:=by simp;omega
       have A5:=xN a5;clear a5;go_wp2
       go_round
       case rel=>exact⟨k+1,by omega,by go_num,fun i hi=>by
        by_cases e:i=k
        ·subst e;rw[HY.o];exact .inr ⟨⟨a3,a4⟩,A5.o⟩
        ·exact HS.o i zM⟩
       case measure=>simp[intOf];omega
     ·have n2:decide ((y:Int)≤57)=false:=decide_eq_false zM
      go_wp2;go_ret
      exact⟨yN (xH fun h=>by rcases h.each k hlt with h|h<;>rw[HY.o] at h<;>(simp only[uBz,uCz] at h;omega)).symm,rfl⟩
    ·go_wp2
     go_ret
     exact⟨yN (xH fun h=>by rcases h.each k hlt with h|h<;>rw[HY.o] at h<;>(simp only[uBz,uCz] at h;omega)).symm,rfl⟩
  ·go_wp2
   go_ret
   exact⟨yN (xI ⟨h1,h2,fun i hi=>HS.o i zM⟩).symm,rfl⟩
theorem befS_zero (l:List xV) (p:Int):befS l p 0=p:=rfl
theorem zRy {l:List xV} {p:Int} {k:Nat} {y:xV} (h:l[k]?=some y):befS l p (k+1)=y.yI:=by
 unfold befS;rw[if_neg zM,Nat.add_sub_cancel,List.getD_eq_getElem?_getD,h];rfl
theorem c_areSends (v:Value) (xs:List xV) (p n:Int) (w:World) (p0:0≤p) (p1:p≤1048576) (n0:0≤n) (n1:n≤1048576) (hr:T.rd w (T.sl 71 2 (xs.map xV.t)) [v]):Calls Tryz.prog 87 #[v,.int .i64 p,.int .i64 n] w fun e w'=>e= .returned (.bool (tf (vEz xs p n)))∧Below w.heap.size w w':=by
 obtain⟨A,cap,rfl,hl,hc,hx⟩:=T.yS hr;have HX:=xN hx;clear hx hr
 go_enter Tryz.func87,Tryz.ntmps87
 go_wp2
 go_loopw [7,13] (fun b i wr=> ∃ (k:Nat) (bf:Int),k≤xs.length∧i= .int .i64 k∧b= .int .i64 bf∧bf=befS xs p k∧0≤bf∧bf≤1048576∧vU xs (fun i x=>inB x.yI (befS xs p i+1) (n - 1)=true∧Smp x.yB) k∧Below w.heap.size w wr) (fun _ i _=>xs.length - (intOf i).toNat)
 case atStart=>exact⟨0,p,Nat.zero_le _,rfl,rfl,rfl,p0,p1,vU.zero,zR⟩
 case round=>
  obtain⟨k,bf,hk,rfl,rfl,hbf,b0,b1,hs,hbw⟩:=hrel;have HS:=xN hs;have HB:=xN hbw;have HBF:=xN hbf;clear hs hbw hbf;by_cases hlt:k<xs.length
  ·have hgk:=gE hlt
   obtain⟨b,off,cs,rfl,hb,hcs,hcell⟩:=HX.o k xs[k] hgk;generalize xs[k]=y at *;have HG:=xN hgk;clear hgk;obtain rfl:=xV.yT (show T.rds _ _ _ by simpa only[xV.t,T.rd] using hcs);obtain⟨d0,d1⟩:=oc2 HB.o hb hcell;clear hcs hcell;have hq:b<wr.heap.size:=zW hb HB.o.size;have hB:=HB.o;have hsz:=HB.o.size;by_cases q1:inB y.yI (bf+1) (n - 1)=true
   rotate_left
   ·have q1':inB y.yI (bf+1) (n - 1)=false:=by simpa using q1
    go_wp2_with (first|(go_at_call 47;refine(xX _ _ _ _).mono ?_;rintro e w' ⟨rfl,rfl⟩)|(go_at_call 95;refine(yMz _ _).mono ?_;rintro e w' ⟨rfl,rfl⟩))
    go_ret
    exact⟨yN (xH fun h=>by have:=(h.each k y HG.o).1;rw[←HBF.o] at this;exact q1 this).symm,ba⟩
   have i1:=xK.1 q1;by_cases q2:Smp y.yB
   rotate_left
   ·have q2':decide (Smp y.yB)=false:=decide_eq_false q2
    have Q2:=xN q2;clear q2;go_wp2_with (first|(go_at_call 47;refine(xX _ _ _ _).mono ?_;rintro e w' ⟨rfl,rfl⟩)|(go_at_call 95;refine(yMz _ _).mono ?_;rintro e w' ⟨rfl,rfl⟩))
    go_ret
    exact⟨yN (xH fun h=>Q2.o (h.each k y HG.o).2).symm,ba⟩
   have q2':decide (Smp y.yB)=true:=decide_eq_true q2;have Q2:=xN q2;have Q1:=xN q1;clear q2;go_wp2_with (first|(go_at_call 47;refine(xX _ _ _ _).mono ?_;rintro e w' ⟨rfl,rfl⟩)|(go_at_call 95;refine(yMz _ _).mono ?_;rintro e w' ⟨rfl,rfl⟩))
   go_roundw
   case rel=>exact⟨k+1,y.yI,by omega,by go_num,rfl,(zRy HG.o).symm,by omega,by omega,HS.o.step HG.o ⟨by rw[←HBF.o];exact Q1.o,Q2.o⟩,ba⟩
   case measure=>simp[intOf];omega
  ·have hall:=xN (HS.o.all zM);clear HS
   have hB:=HB.o;by_cases hp:p=n - 1
   ·by_cases hz:xs.length=0
    ·have z1:((xs.length:Int) == 0)=true:=xA zM
     have HZ:=xN hz;have HP:=xN hp;have z2:(p == n - 1)=true:=by simp[hp]
     clear hz hp;go_wp2;go_ret
     exact⟨yN (xI ⟨hall.o,fun _=>HZ.o,fun h=>absurd HP.o h⟩).symm,HB.o⟩
    ·have z1:((xs.length:Int) == 0)=false:=yZ zM
     have HZ:=xN hz;have HP:=xN hp;have z2:(p == n - 1)=true:=by simp[hp]
     clear hz hp;go_wp2;go_ret
     exact⟨yN (xH fun h=>HZ.o (h.last HP.o)).symm,HB.o⟩
   ·have z2:(p == n - 1)=false:=by simp[hp]
    have HP:=xN hp;clear hp;go_wp2_with (first|(go_at_call 47;refine(xX _ _ _ _).mono ?_;rintro e w' ⟨rfl,rfl⟩)|(go_at_call 94;refine(yHy _ _ _ _ zM).mono ?_;rintro e w' ⟨rfl,rfl⟩))
    go_ret
    exact⟨yN (by
     by_cases hz:1≤xs.length∧xs.length≤4
     ·rw[xI ⟨hall.o,fun h=>absurd h HP.o,fun _=>hz⟩];exact xK.2 zM
     ·rw[xH fun h=>hz (h.few HP.o)];exact zNy.2 zM),HB.o⟩
end
section
open Go.RowKit Go.WideMaps Go.Maps
theorem c_hasSrc1 (x:xU) (n:Int) (b:Nat) (w:World) (hb:b<w.heap.size) (hc:w.cell? ⟨b,0,none⟩=some (.int .i64 n)):Calls Tryz.prog 90 #[.agg #[.int .i64 x.zV,.int .i64 x.zO,.int .i64 x.zB,.int .i64 x.yE,.int .i64 x.yB],.pointer (some ⟨b,0,none⟩)] w fun e w'=>e= .returned (.bool (decide (n≤x.zV)))∧Below w.heap.size w w':=by
 have hB:Below w.heap.size w (w.alloc (.cells #[.int .i64 x.zV,.int .i64 x.zO,.int .i64 x.zB,.int .i64 x.yE,.int .i64 x.yB] 39)):=zR.alloc zJ _;have HB:=xN hB;clear hB
 go_enter Tryz.func90,Tryz.ntmps90
 go_wp2;go_ret
 exact⟨rfl,HB.o⟩
theorem c_idxSrc (v:Value) (xs:List xU) (n:Int) (b:Nat) (w:World) (hb:b<w.heap.size) (hcb:w.cell? ⟨b,0,none⟩=some (.int .i64 n)) (hr:T.rd w (T.sl 39 5 (xs.map xU.t)) [v]):Calls Tryz.prog 123 #[v,.func (.func 90) #[] #[.pointer (some ⟨b,0,none⟩)]] w fun e w'=> ∃ r:Int,e= .returned (.int .i64 r)∧(0≤r↔ ∃ x ∈ xs,n≤x.zV)∧Below w.heap.size w w':=by
 obtain⟨A,cap,rfl,hl,hc,hx⟩:=T.yS hr;have HX:=xN hx;clear hx hr;have BB:=xN (And.intro hb hcb);clear hb hcb
 go_enter Tryz.func123,Tryz.ntmps123
 go_wp2
 go_loopw [8] (fun i wr=> ∃ k:Nat,k≤xs.length∧i= .int .i64 k∧vU xs (fun _ x=>x.zV<n) k∧Below w.heap.size w wr) (fun i _=>xs.length - (intOf i).toNat)
 case atStart=>exact⟨0,Nat.zero_le _,rfl,vU.zero,zR⟩
 case round=>
  obtain⟨k,hk,rfl,hs,hbw⟩:=hrel;have HS:=xN hs;have HB:=xN hbw;clear hs hbw;by_cases hlt:k<xs.length
  ·have hgk:=gE hlt
   obtain⟨b1,off,cs,rfl,hb1,hcs,hcell⟩:=HX.o k xs[k] hgk;generalize xs[k]=x at *;have HG:=xN hgk;clear hgk;obtain rfl:=xU.yT (show T.rds _ _ _ by simpa only[xU.t,T.rd] using hcs);obtain⟨d0,d1,d2,d3,d4⟩:=oc5 HB.o hb1 hcell;clear hcs hcell;by_cases hq:n≤x.zV
   ·have hd:decide (n≤x.zV)=true:=decide_eq_true hq
    have HQ:=xN hq;clear hq;go_wp2_with (go_at_call 90;refine(c_hasSrc1 x n b _ (zW BB.o.1 HB.o.size) ((HB.o.cell BB.o.1).trans BB.o.2)).mono ?_;rintro e w3 ⟨rfl,hb3⟩;rw[hd])
    have HB3:=xN (yO HB.o HB.o.size hb3);clear hb3;go_wp2;go_ret
    exact⟨_,rfl,⟨fun _=>⟨x,List.mem_of_getElem? HG.o,HQ.o⟩,fun _=>by omega⟩,HB3.o⟩
   ·have hd:decide (n≤x.zV)=false:=decide_eq_false hq
    have HQ:=xN hq;clear hq;go_wp2_with (go_at_call 90;refine(c_hasSrc1 x n b _ (zW BB.o.1 HB.o.size) ((HB.o.cell BB.o.1).trans BB.o.2)).mono ?_;rintro e w3 ⟨rfl,hb3⟩;rw[hd])
    have HB3:=xN (yO HB.o HB.o.size hb3);clear hb3;go_wp2
    go_roundw
    case rel=>exact⟨k+1,by omega,by go_num,HS.o.step HG.o (by have:=HQ.o;omega),HB3.o⟩
    case measure=>simp[intOf];omega
  ·have hall:=xN (HS.o.all zM);clear HS
   go_wp2;go_ret
   exact⟨-1,rfl,⟨fun h=>absurd h zM,fun⟨x,hx,hp⟩=>by
    obtain⟨i,hi,rfl⟩:=List.mem_iff_getElem.1 hx;have:=hall.o i _ (gE hi);omega⟩,HB.o⟩
theorem c_anySrc (v:Value) (xs:List xU) (n:Int) (b:Nat) (w:World) (hb:b<w.heap.size) (hcb:w.cell? ⟨b,0,none⟩=some (.int .i64 n)) (hr:T.rd w (T.sl 39 5 (xs.map xU.t)) [v]):Calls Tryz.prog 89 #[v,.func (.func 90) #[] #[.pointer (some ⟨b,0,none⟩)]] w fun e w'=>e= .returned (.bool (tf (∃ x ∈ xs,n≤x.zV)))∧Below w.heap.size w w':=by
 have HR:=xN hr;have BB:=xN (And.intro hb hcb);clear hb hcb;obtain⟨A,cap,rfl,hl,hc,hx⟩:=T.yS hr;clear hx hr
 go_enter Tryz.func89,Tryz.ntmps89
 go_wp2_with (go_at_call 123;refine(c_idxSrc _ xs n b _ BB.o.1 BB.o.2 HR.o).mono ?_;rintro e w3 ⟨r,rfl,hiff,hb3⟩;have HI:=xN hiff;have H3:=xN hb3;clear hiff hb3)
 go_ret
 exact⟨yN (by rw[←uZ];exact tf_iff HI.o),H3.o⟩
theorem uDz (x:xS) (cs:List Value) (n:Int) (w:World) (h:T.rds w x.fs cs):Calls Tryz.prog 53 #[.agg cs.toArray,.int .i64 n] w fun e w'=>e= .returned (.bool (tf (∀ c ∈ x.zS,c.zV<n)))∧Below w.heap.size w w':=by
 obtain⟨v0,rfl,h0⟩:=xS.yT h;clear h;obtain⟨va0,vc0,rfl,vl0,vm0,R0,HX0⟩:=oG h0;clear h0;obtain⟨HB0,HK0⟩:=aK w 69 #[(.slice va0 x.zS.length vc0)];have hmf: ∀ (fn:Fn) (first cap:Array Value) (w:World),(Instr.makeFunc fn first cap).run Tryz.prog w= .ok (.func fn first cap) w:=fun _ _ _ _=>by simp[go_sem,Instr.makeFunc]
 have hb1:Below w.heap.size w ((w.alloc (.cells #[(.slice va0 x.zS.length vc0)] 69)).alloc (.cells #[.int .i64 n] 2)):=HB0.o.alloc (by simp) _;have H1:=xN hb1;clear hb1;have hsz1:((w.alloc (.cells #[(.slice va0 x.zS.length vc0)] 69)).alloc (.cells #[.int .i64 n] 2)).heap.size=w.heap.size+2:=by simp
 have Hsz:=xN hsz1;clear hsz1
 go_enter Tryz.func53,Tryz.ntmps53
 go_wp2_with (go_at_call 89;refine(c_anySrc _ x.zS n (w.heap.size+1) _ (by rw[Hsz.o];omega) (by simp) (T.yJ R0.o H1.o)).mono ?_;rintro e w3 ⟨rfl,hb3⟩;have H3:=xN (yO H1.o (by rw[Hsz.o];omega) hb3);clear hb3)
 go_ret
 exact⟨yN (by
  by_cases hc: ∃ c ∈ x.zS,n≤c.zV
  ·rw[xI hc,xH (fun h=>by obtain⟨c,hc1,hc2⟩:=hc;have:=h c hc1;omega)];rfl
  ·rw[xH hc,xI (fun c h=>Int.not_le.1 fun k=>hc ⟨c,h,k⟩)];rfl),H3.o⟩
theorem vTz (x:xS) (cs:List Value) (w:World) (h:T.rds w x.fs cs):Calls Tryz.prog 52 #[.agg cs.toArray] w fun e w'=>e= .returned (.bool (tf (zAz x)))∧Below w.heap.size w w':=by
 obtain⟨v0,rfl,h0⟩:=xS.yT h;clear h;obtain⟨va0,vc0,rfl,vl0,vm0,R0,HX0⟩:=oG h0;clear h0;obtain⟨HB0,HK0⟩:=aK w 69 #[(.slice va0 x.zS.length vc0)]
 go_enter Tryz.func52,Tryz.ntmps52
 go_wp2
 go_loopw [8] (fun i wr=> ∃ k:Nat,k≤x.zS.length∧i= .int .i64 k∧vU x.zS (fun i c=>zLz c∧ ∀ p,0<i→x.zS[i - 1]?=some p→p.yE≤c.yE) k∧Below (w.alloc (.cells #[(.slice va0 x.zS.length vc0)] 69)).heap.size (w.alloc (.cells #[(.slice va0 x.zS.length vc0)] 69)) wr) (fun i _=>x.zS.length - (intOf i).toNat)
 case atStart=>exact⟨0,Nat.zero_le _,rfl,vU.zero,zR⟩
 case round=>
  obtain⟨k,hk,rfl,hs,hbw⟩:=hrel;have HS:=xN hs;have HW:=xN hbw;have HB:=xN (yO HB0.o HB0.o.size hbw);have HK:=xN (HK0.o.below hbw HK0.o.lt);clear hs hbw;have ka:=HK.o.cell;have la:=HK.o.lt;by_cases hlt:k<x.zS.length
  rotate_left
  ·have hall:=xN (HS.o.all zM);clear HS
   by_cases h12:x.zS.length≤12
   ·go_wp2
    go_ret
    exact⟨yN (by rw[xI ⟨hall.o,h12⟩];exact decide_eq_true zM),HB.o⟩
   ·go_wp2
    go_ret
    exact⟨yN (by rw[xH fun h=>h12 h.few];exact decide_eq_false zM),HB.o⟩
  have hgk:=gE hlt;obtain⟨b1,off,cs1,hA,hb1,hcs,hcell⟩:=HX0.o k x.zS[k] hgk;subst hA;generalize x.zS[k]=y at *;have HG:=xN hgk;clear hgk;obtain rfl:=xU.yT (show T.rds _ _ _ by simpa only[xU.t,T.rd] using hcs);obtain⟨d0,d1,d2,d3,d4⟩:=oc5 HB.o hb1 hcell;clear hcs hcell;have hq1:b1<wr.heap.size:=zW hb1 HB.o.size;have hT0:= @xU.rd_mk;clear hT0;by_cases hk0:k=0
  ·have g0':decide (0<k)=false:=decide_eq_false zM
   have K0:=xN hk0;clear hk0;by_cases q1:zLz y
   ·have a1:=xI q1
    have Q1:=xN q1;clear q1;have hWb:Below wr.heap.size wr (wr.alloc (.cells #[.int .i64 y.zV,.int .i64 y.zO,.int .i64 y.zB,.int .i64 y.yE,.int .i64 y.yB] 39)):=zR.alloc zJ _;have hNb:=Bk.born wr 39 #[.int .i64 y.zV,.int .i64 y.zO,.int .i64 y.zB,.int .i64 y.yE,.int .i64 y.yB];go_wp2;generalize wr.alloc (.cells #[.int .i64 y.zV,.int .i64 y.zO,.int .i64 y.zB,.int .i64 y.yE,.int .i64 y.yB] 39)=W at *;have HWb:=xN hWb;have HNb:=xN hNb;have HKW:=xN (HK.o.below hWb HK.o.lt);have g0:=xM hNb;have g1:=xM HKW.o;clear hWb hNb;refine rB ?_
    repeat(first|go_big_quiet_skip|(go_big_quiet_want;go_big_quiet_op;first|go_big_quiet_on|(apply Exists.intro;refine⟨fun _=>?_,?_⟩;(· (go_at_call 88;exact Calls.yQ ((vBz y _ _ xU.rd_mk).mono (fun e w' h=>by rw[a1] at h;exact h))));go_big_quiet_on)))
    refine wpQuiet_nil ?_;rintro w9 ⟨uu,rfl⟩;have hb9:=yM W uu;generalize bel W uu=w9 at *;have HC:=xN (yO HWb.o HWb.o.size hb9);have HC2:=xN (yO HB.o HB.o.size HC.o);have HC3:=xN (yO HW.o HW.o.size HC.o);clear hb9 g0 g1;go_wp2
    go_roundw
    case rel=>exact⟨k+1,by omega,by go_num,HS.o.step HG.o ⟨Q1.o,fun p h=>by have:=K0.o;omega⟩,HC3.o⟩
    case measure=>simp[intOf];omega
   ·have a1:=xH q1
    have Q1:=xN q1;clear q1;have hWb:Below wr.heap.size wr (wr.alloc (.cells #[.int .i64 y.zV,.int .i64 y.zO,.int .i64 y.zB,.int .i64 y.yE,.int .i64 y.yB] 39)):=zR.alloc zJ _;have hNb:=Bk.born wr 39 #[.int .i64 y.zV,.int .i64 y.zO,.int .i64 y.zB,.int .i64 y.yE,.int .i64 y.yB];go_wp2;generalize wr.alloc (.cells #[.int .i64 y.zV,.int .i64 y.zO,.int .i64 y.zB,.int .i64 y.yE,.int .i64 y.yB] 39)=W at *;have HWb:=xN hWb;have HNb:=xN hNb;have HKW:=xN (HK.o.below hWb HK.o.lt);have g0:=xM hNb;have g1:=xM HKW.o;clear hWb hNb;refine rB ?_
    repeat(first|go_big_quiet_skip|(go_big_quiet_want;go_big_quiet_op;first|go_big_quiet_on|(apply Exists.intro;refine⟨fun _=>?_,?_⟩;(· (go_at_call 88;exact Calls.yQ ((vBz y _ _ xU.rd_mk).mono (fun e w' h=>by rw[a1] at h;exact h))));go_big_quiet_on)))
    refine wpQuiet_nil ?_;rintro w9 ⟨uu,rfl⟩;have hb9:=yM W uu;generalize bel W uu=w9 at *;have HC:=xN (yO HWb.o HWb.o.size hb9);have HC2:=xN (yO HB.o HB.o.size HC.o);have HC3:=xN (yO HW.o HW.o.size HC.o);clear hb9 g0 g1;go_wp2;go_ret
    exact⟨yN (xH fun h=>Q1.o (h.clips k y HG.o).1).symm,HC2.o⟩
  obtain⟨j,rfl⟩: ∃ j,k=j+1:=⟨k - 1,by omega⟩;clear hk0;have hlj:j<x.zS.length:=by omega
  have hgj:=gE hlj;obtain⟨b2,off2,cs2,hA,hb2,hcs,hcell⟩:=HX0.o j x.zS[j] hgj;obtain⟨rfl,rfl⟩:b1=b2∧off=off2:=by injection hA with hA;injection hA with e1 e2;exact⟨e1,e2⟩
  clear hA;generalize x.zS[j]=z at *;have HJ:=xN hgj;clear hgj;obtain rfl:=xU.yT (show T.rds _ _ _ by simpa only[xU.t,T.rd] using hcs);obtain⟨g0,g1,g2,g3,g4⟩:=oc5 HB.o hb2 hcell;clear hcs hcell;have G3:=xN g3;clear g0 g1 g2 g3 g4;have n1:((j:Int)<(x.zS.length:Int)):=by omega
  have e1:IntKind.i64.wrap ((j:Int)+1 - 1)=(j:Int):=by rw[IntWalk.i64_in _ zM];omega
  have e2:IntKind.i64.wrap (j:Int)=(j:Int):=IntWalk.i64_in _ zM;have n0:(0:Int)≤(j:Int):=by omega
  by_cases q1:zLz y
  rotate_left
  ·have a1:=xH q1
   have Q1:=xN q1;clear q1;have hWb:Below wr.heap.size wr (wr.alloc (.cells #[.int .i64 y.zV,.int .i64 y.zO,.int .i64 y.zB,.int .i64 y.yE,.int .i64 y.yB] 39)):=zR.alloc zJ _;have hNb:=Bk.born wr 39 #[.int .i64 y.zV,.int .i64 y.zO,.int .i64 y.zB,.int .i64 y.yE,.int .i64 y.yB];go_wp2;generalize wr.alloc (.cells #[.int .i64 y.zV,.int .i64 y.zO,.int .i64 y.zB,.int .i64 y.yE,.int .i64 y.yB] 39)=W at *;have HWb:=xN hWb;have HNb:=xN hNb;have HKW:=xN (HK.o.below hWb HK.o.lt);have g0:=xM hNb;have g1:=xM HKW.o;have g2:=yK ((hWb.cell (World.block_lt_of_cell? wr _ G3.o)).trans G3.o);clear hWb hNb;refine rB ?_
   repeat(first|go_big_quiet_skip|(go_big_quiet_want;go_big_quiet_op;first|go_big_quiet_on|(apply Exists.intro;refine⟨fun _=>?_,?_⟩;(· (go_at_call 88;exact Calls.yQ ((vBz y _ _ xU.rd_mk).mono (fun e w' h=>by rw[a1] at h;exact h))));go_big_quiet_on)))
   refine wpQuiet_nil ?_;rintro w9 ⟨uu,rfl⟩;have hb9:=yM W uu;generalize bel W uu=w9 at *;have HC:=xN (yO HWb.o HWb.o.size hb9);have HC2:=xN (yO HB.o HB.o.size HC.o);have HC3:=xN (yO HW.o HW.o.size HC.o);clear hb9 g0 g1 g2;go_wp2;go_ret
   exact⟨yN (xH fun h=>Q1.o (h.clips (j+1) y HG.o).1).symm,HC2.o⟩
  have a1:=xI q1;have Q1:=xN q1;clear q1;by_cases q2:y.yE<z.yE
  ·have Q2:=xN q2
   have hWb:Below wr.heap.size wr (wr.alloc (.cells #[.int .i64 y.zV,.int .i64 y.zO,.int .i64 y.zB,.int .i64 y.yE,.int .i64 y.yB] 39)):=zR.alloc zJ _;have hNb:=Bk.born wr 39 #[.int .i64 y.zV,.int .i64 y.zO,.int .i64 y.zB,.int .i64 y.yE,.int .i64 y.yB];go_wp2;generalize wr.alloc (.cells #[.int .i64 y.zV,.int .i64 y.zO,.int .i64 y.zB,.int .i64 y.yE,.int .i64 y.yB] 39)=W at *;have HWb:=xN hWb;have HNb:=xN hNb;have HKW:=xN (HK.o.below hWb HK.o.lt);have g0:=xM hNb;have g1:=xM HKW.o;have g2:=yK ((hWb.cell (World.block_lt_of_cell? wr _ G3.o)).trans G3.o);clear hWb hNb;refine rB ?_
   repeat(first|go_big_quiet_skip|(go_big_quiet_want;go_big_quiet_op;first|go_big_quiet_on|(apply Exists.intro;refine⟨fun _=>?_,?_⟩;(· (go_at_call 88;exact Calls.yQ ((vBz y _ _ xU.rd_mk).mono (fun e w' h=>by rw[a1] at h;exact h))));go_big_quiet_on)))
   refine wpQuiet_nil ?_;rintro w9 ⟨uu,rfl⟩;have hb9:=yM W uu;generalize bel W uu=w9 at *;have HC:=xN (yO HWb.o HWb.o.size hb9);have HC2:=xN (yO HB.o HB.o.size HC.o);have HC3:=xN (yO HW.o HW.o.size HC.o);clear hb9 g0 g1 g2;go_wp2;go_ret
   exact⟨yN (xH fun h=>by have:=(h.clips (j+1) y HG.o).2 z zM HJ.o;have:=Q2.o;omega).symm,HC2.o⟩
  have hWb:Below wr.heap.size wr (wr.alloc (.cells #[.int .i64 y.zV,.int .i64 y.zO,.int .i64 y.zB,.int .i64 y.yE,.int .i64 y.yB] 39)):=zR.alloc zJ _;have hNb:=Bk.born wr 39 #[.int .i64 y.zV,.int .i64 y.zO,.int .i64 y.zB,.int .i64 y.yE,.int .i64 y.yB];go_wp2;generalize wr.alloc (.cells #[.int .i64 y.zV,.int .i64 y.zO,.int .i64 y.zB,.int .i64 y.yE,.int .i64 y.yB] 39)=W at *;have HWb:=xN hWb;have HNb:=xN hNb;have HKW:=xN (HK.o.below hWb HK.o.lt);have g0:=xM hNb;have g1:=xM HKW.o;have g2:=yK ((hWb.cell (World.block_lt_of_cell? wr _ G3.o)).trans G3.o);clear hWb hNb;refine rB ?_
  repeat(first|go_big_quiet_skip|(go_big_quiet_want;go_big_quiet_op;first|go_big_quiet_on|(apply Exists.intro;refine⟨fun _=>?_,?_⟩;(· (go_at_call 88;exact Calls.yQ ((vBz y _ _ xU.rd_mk).mono (fun e w' h=>by rw[a1] at h;exact h))));go_big_quiet_on)))
  refine wpQuiet_nil ?_;rintro w9 ⟨uu,rfl⟩;have hb9:=yM W uu;generalize bel W uu=w9 at *;have HC:=xN (yO HWb.o HWb.o.size hb9);have HC2:=xN (yO HB.o HB.o.size HC.o);have HC3:=xN (yO HW.o HW.o.size HC.o);clear hb9 g0 g1 g2;go_wp2
  go_roundw
  case rel=>exact⟨j+1+1,by omega,by go_num,HS.o.step HG.o ⟨Q1.o,fun p _ hp=>by rw[Nat.add_sub_cancel,HJ.o] at hp;injection hp with hp;subst hp;omega⟩,HC3.o⟩
  case measure=>simp[intOf];omega
end
section
open Go.RowKit Go.WideMaps Go.Maps
theorem lookup_bool {P:Program} {k e t:TypeId} {w:World} {b n:Nat} {D:DataW Unit} (h:w.ownsMap P k (plainElem (H:=Unit) P e) b n D) (K:Keyed P k) (ht:P.underlying t=some (.map k e)) (he:P.underlying e=some .bool) (hz:(zeroValue e).run P w= .ok (.bool false) w)
  {key:Value} {kl:Lit} (hkey:keyOf P k key=some kl): ∃ c,(Instr.lookup t (.map (some b)) key false).run P w= .ok (.bool c) w∧D.atKey kl (.lit (.bool false))= .lit (.bool c):=by
 obtain⟨v,ps,hrun,hv⟩:=h.lookup K ht hz (plainElem_bool he false) hkey;unfold plainElem at hv;rw[he] at hv
 cases v<;>simp at hv
 exact⟨_,hrun,hv.1.symm⟩
theorem key_s:Keyed Tryz.prog 9:=string_keyed Tryz.underlying9
theorem grown_of_below {w w':World} (h:Below w.heap.size w w') (row:Option Nat):w.grownBy w' row:=⟨h.os,h.tape,h.output,h.size,fun k hk _=>h.block k hk⟩
theorem lit_s_ne {s t:ByteArray} (h:s≠t):(Lit.string s.data.toList)≠Lit.string t.data.toList:=by
 intro e;injection e with e;exact h (ByteArray.ext (Array.toList_inj.1 e))
def Nms (xs:List xP) (k:Nat) (D:DataW Unit):Prop:=IsMap D∧ ∀ s:ByteArray,D.atKey (.string s.data.toList) (.lit (.bool false))= .lit (.bool (tf (∃ j y,j<k∧xs[j]?=some y∧y.yH=s)))
theorem Nms.zero (xs:List xP):Nms xs 0 (.map []):=by
 refine⟨isMap_empty,fun s=>?_⟩;rw[xH (by rintro⟨j,y,h,_⟩;omega)]
 rfl
theorem Nms.step {xs:List xP} {k:Nat} {D:DataW Unit} {x:xP} (h:Nms xs k D) (hx:xs[k]?=some x) (hk:WideAt.IsKeyLit (.string x.yH.data.toList)):Nms xs (k+1) (D.put (.string x.yH.data.toList) (.lit (.bool true))):=by
 refine⟨h.1.put _ _,fun s=>?_⟩;by_cases e:s=x.yH
 ·subst e
  rw[atKey_put_same h.1 hk,xI ⟨k,x,by omega,hx,rfl⟩]
 ·rw[atKey_put_other (lit_s_ne e),h.2 s]
  refine congrArg (fun b=>DataW.lit (Lit.bool b)) ?_
  apply tf_iff
  constructor
  ·rintro⟨j,y,h1,h2,h3⟩;exact⟨j,y,by omega,h2,h3⟩
  ·rintro⟨j,y,h1,h2,h3⟩
   by_cases ej:j=k
   ·subst ej
    rw[hx] at h2;injection h2 with h2;subst h2;exact absurd h3.symm e
   ·exact⟨j,y,by omega,h2,h3⟩
theorem c_isMixer (x:vF) (cs:List Value) (w:World) (hn:x.zC.length≤1048576) (h:T.rds w x.fs cs):Calls Tryz.prog 49 #[.agg cs.toArray] w fun e w'=>e= .returned (.bool (tf (zSz x)))∧Below w.heap.size w w':=by
 obtain⟨v0,rfl,h0⟩:=vF.yT h;clear h;obtain⟨va0,vc0,rfl,vl0,vm0,R0,HX0⟩:=oG h0;clear h0;obtain⟨HB0,HK0⟩:=aK w 30 #[(.slice va0 x.zC.length vc0)];have hmm:= @run_makeMap Tryz.prog;have HB1:=xN (show Below w.heap.size w ((w.alloc (.cells #[(.slice va0 x.zC.length vc0)] 30)).alloc (.map #[] 0)) from HB0.o.alloc (by simp) _);have HK1:=xN (HK0.o.alloc (.map #[] 0));have e1:(w.alloc (.cells #[(.slice va0 x.zC.length vc0)] 30)).heap.size=w.heap.size+1:=by simp
 have hm1:((w.alloc (.cells #[(.slice va0 x.zC.length vc0)] 30)).alloc (.map #[] 0)).ownsMap Tryz.prog 9 (plainElem (H:=Unit) Tryz.prog 4) (w.heap.size+1) 0 (.map []):=by have:=World.ownsMap_made (w.alloc (.cells #[(.slice va0 x.zC.length vc0)] 30)) Tryz.prog 9 (plainElem (H:=Unit) Tryz.prog 4);rwa [e1] at this
 have HM1:=xN hm1;clear hm1 e1
 go_enter Tryz.func49,Tryz.ntmps49
 go_wp2_with (go_at_call 46;refine(uG _ _ _ _ zM).mono ?_;rintro e w' ⟨rfl,rfl⟩)
 go_loopw [14] (fun i wr=> ∃ (k:Nat) (D:DataW Unit),k≤x.zC.length∧i= .int .i64 k∧wr.ownsMap Tryz.prog 9 (plainElem (H:=Unit) Tryz.prog 4) (w.heap.size+1) k D∧Nms x.zC k D∧vU x.zC (fun i x_1=>StripOk x_1 (i:Int) (x.zC.length:Int)∧ ∀ j y,j<i→x.zC[j]?=some y→y.yH≠x_1.yH) k∧Bk wr w.heap.size 30 #[(.slice va0 x.zC.length vc0)]∧Below w.heap.size w wr) (fun i _=>x.zC.length - (intOf i).toNat)
 case atStart=>exact⟨0,_,Nat.zero_le _,rfl,HM1.o,Nms.zero _,vU.zero,HK1.o,HB1.o⟩
 case round=>
  obtain⟨k,D,hk,rfl,hm,hnm,hs,hbk,hbw⟩:=hrel;have HM:=xN hm;have HN:=xN hnm;have HS:=xN hs;have HK:=xN hbk;have HB:=xN hbw;clear hm hnm hs hbk hbw;have ka:=HK.o.cell;have la:=HK.o.lt;have hsz:=HB.o.size;have lm:=HM.o.lt;by_cases hlt:k<x.zC.length
  rotate_left
  ·have hall:=xN (HS.o.all zM);clear HS
   go_wp2_with (go_at_call 47;refine(xX _ _ _ _).mono ?_;rintro e w' ⟨rfl,rfl⟩)
   go_ret
   exact⟨yN (by
   by_cases h:1≤x.zC.length∧x.zC.length≤8
   ·rw[xI ⟨h.1,h.2,hall.o⟩];exact xK.2 zM
   ·rw[xH fun hh=>h ⟨hh.some_,hh.few⟩];exact zNy.2 zM),HB.o⟩
  have hgk:=gE hlt;obtain⟨b1,off,cs1,hA,hb1,hcs,hcell⟩:=HX0.o k x.zC[k] hgk;subst hA;generalize x.zC[k]=y at *;have HG:=xN hgk;clear hgk;obtain⟨u2,rfl,hRY2⟩:=xP.yT (show T.rds _ _ _ by simpa only[xP.t,T.rd] using hcs);obtain⟨d0,d1,d2⟩:=oc3 HB.o hb1 hcell;have RY2:=xN (T.yJ hRY2 HB.o);clear hRY2;clear hcs hcell;obtain⟨ua2,ul2,uc2,rfl⟩:=T.xD RY2.o;have hq1:b1<wr.heap.size:=zW hb1 HB.o.size;have HW:=xN (show Below wr.heap.size wr (wr.alloc (.cells #[.string y.yH,.int .i64 y.zZ,.slice ua2 ul2 uc2] 74)) from zR.alloc zJ _);have HBW:=xN (yO HB.o HB.o.size HW.o);by_cases q1:NameOk y.yH
  rotate_left
  ·have a1:=xH q1;have Q1:=xN q1;clear q1
   go_wp2_with (go_at_call 86;refine(ySy _ _).mono ?_;rintro e w' ⟨rfl,rfl⟩;rw[a1])
   go_ret
   exact⟨yN (xH fun h=>Q1.o (h.each k y HG.o).1.name).symm,HBW.o⟩
  have a1:=xI q1;have Q1:=xN q1;clear q1;have hz:(zeroValue 4).run Tryz.prog (wr.alloc (.cells #[.string y.yH,.int .i64 y.zZ,.slice ua2 ul2 uc2] 74))= .ok (.bool false) (wr.alloc (.cells #[.string y.yH,.int .i64 y.zZ,.slice ua2 ul2 uc2] 74)):=by kernel_rfl
  have hsn:y.yH.size≤maxLen:=by have:=Q1.o.few;unfold maxLen;omega
  have hkey:=keyOf_string_mk Tryz.underlying9 hsn;obtain⟨c,hrun,hat⟩:=lookup_bool (HM.o.alloc (.cells #[.string y.yH,.int .i64 y.zZ,.slice ua2 ul2 uc2] 74)) key_s Tryz.underlying141 Tryz.underlying4 hz hkey;rw[HN.o.2 y.yH] at hat;injection hat with hat;injection hat with hat;have HKEY:=xN hkey;clear hkey hz hsn;by_cases q2: ∃ j z,j<k∧x.zC[j]?=some z∧z.yH=y.yH
  ·rw[xI q2] at hat;subst hat
   have Q2:=xN q2;clear q2;go_wp2_with (go_at_call 86;refine(ySy _ _).mono ?_;rintro e w' ⟨rfl,rfl⟩;rw[a1])
   go_ret
   exact⟨yN (xH fun h=>by obtain⟨j,z,h1,h2,h3⟩:=Q2.o;exact(h.each k y HG.o).2 j z h1 h2 h3).symm,HBW.o⟩
  rw[xH q2] at hat;subst hat;have Q2:=xN q2;clear q2;by_cases q3:inB y.zZ 0 32=true
  rotate_left
  ·have q3':inB y.zZ 0 32=false:=by simpa using q3
   go_wp2_with (first|(go_at_call 86;refine(ySy _ _).mono ?_;rintro e w' ⟨rfl,rfl⟩;rw[a1])|(go_at_call 47;refine(xX _ _ _ _).mono ?_;rintro e w' ⟨rfl,rfl⟩))
   go_ret
   exact⟨yN (xH fun h=>q3 (h.each k y HG.o).1.latency).symm,HBW.o⟩
  go_wp2_with (first|(go_at_call 86;refine(ySy _ _).mono ?_;rintro e w' ⟨rfl,rfl⟩;rw[a1])|(go_at_call 47;refine(xX _ _ _ _).mono ?_;rintro e w' ⟨rfl,rfl⟩))
  refine(c_areSends _ y.zT (k:Int) (x.zC.length:Int) _ zM zM zM zM (T.yJ RY2.o HW.o)).mono ?_;rintro e w3 ⟨rfl,hb3⟩;have HM3:=xN ((HM.o.alloc (.cells #[.string y.yH,.int .i64 y.zZ,.slice ua2 ul2 uc2] 74)).kept (grown_of_below hb3 none) (by simp));have HK3:=xN ((HK.o.alloc (.cells #[.string y.yH,.int .i64 y.zZ,.slice ua2 ul2 uc2] 74)).below hb3 (by simp;omega));have HN3:=xN ((Bk.born wr 74 #[.string y.yH,.int .i64 y.zZ,.slice ua2 ul2 uc2]).below hb3 (by simp));have HB3:=xN (yO HBW.o HBW.o.size hb3);clear hb3 ka la lm hsz hrun;have ka:=HK3.o.cell;have kn:=HN3.o.cell;have hsz:=HB3.o.size;by_cases q4:vEz y.zT (k:Int) (x.zC.length:Int)
  rotate_left
  ·rw[xH q4];have Q4:=xN q4;clear q4
   go_wp2;go_ret
   exact⟨yN (xH fun h=>Q4.o (h.each k y HG.o).1.sends).symm,HB3.o⟩
  rw[xI q4];have Q4:=xN q4;have Q3:=xN q3;clear q4 q3;go_wp2_with (at_mapUpdate;refine wpList_mapUpdate_own _ rfl _ _ _ _ rfl _ _ key_s Tryz.underlying141 _ _ _ _ rfl HM3.o (by unfold maxLen;omega) _ _ _ rfl rfl HKEY.o _ [] (plainElem_bool Tryz.underlying4 true) ?_;intro w5 hown5 hg5;have HM5:=xN hown5;have HK5:=xN (HK3.o.grown hg5 (by simp));have HB5:=xN (HB3.o.grown hg5 HB3.o.size (fun j hj=>by cases hj;omega));clear hown5 hg5)
  go_roundw
  case rel=>exact⟨k+1,_,by omega,by go_num,HM5.o,HN.o.step HG.o trivial,HS.o.step HG.o ⟨⟨Q1.o,Q3.o,Q4.o⟩,fun j z h1 h2 h3=>Q2.o ⟨j,z,h1,h2,h3⟩⟩,HK5.o,HB5.o⟩
  case measure=>simp[intOf];omega
end
section
open Go.RowKit
def kndNames:List (List UInt8):= [[105,110,112,117,116],[99,111,110,115,116],[97,100,100],[115,117,98],[103,97,105,110],[100,101,108,97,121],[115,117,109],[100,105,102,102],[109,117,108],[115,104,105,102,116],[99,108,105,112],[112,104,97,115,101],[116,97,98,108,101],[110,111,105,115,101],[115,101,108,101,99,116],[104,111,108,100],[99,111,109,98]]
def kndName (i:Nat):ByteArray:=⟨(kndNames.getD i []).toArray⟩
def xLz:Array Value:= #[.string ⟨#[105,110,112,117,116]⟩,.int .i64 0,.int .i64 0,.int .i64 3,.bool true,.bool false,.string ⟨#[99,111,110,115,116]⟩,.int .i64 0,.int .i64 (-2147483648),.int .i64 2147483647,.bool false,.bool false,.string ⟨#[97,100,100]⟩,.int .i64 2,.int .i64 1,.int .i64 0,.bool true,.bool false,.string ⟨#[115,117,98]⟩,.int .i64 2,.int .i64 1,.int .i64 0,.bool true,.bool false,.string ⟨#[103,97,105,110]⟩,.int .i64 1,.int .i64 (-2147483648),.int .i64 2147483647,.bool true,.bool false,.string ⟨#[100,101,108,97,121]⟩,.int .i64 1,.int .i64 1,.int .i64 16,.bool true,.bool false,.string ⟨#[115,117,109]⟩,.int .i64 1,.int .i64 1,.int .i64 0,.bool true,.bool false,.string ⟨#[100,105,102,102]⟩,.int .i64 1,.int .i64 1,.int .i64 0,.bool true,.bool false,.string ⟨#[109,117,108]⟩,.int .i64 2,.int .i64 1,.int .i64 0,.bool false,.bool false,.string ⟨#[115,104,105,102,116]⟩,.int .i64 1,.int .i64 0,.int .i64 31,.bool false,.bool false,.string ⟨#[99,108,105,112]⟩,.int .i64 1,.int .i64 0,.int .i64 2147483647,.bool false,.bool false,.string ⟨#[112,104,97,115,101]⟩,.int .i64 1,.int .i64 (-2147483648),.int .i64 2147483647,.bool false,.bool false,.string ⟨#[116,97,98,108,101]⟩,.int .i64 1,.int .i64 0,.int .i64 3,.bool false,.bool false,.string ⟨#[110,111,105,115,101]⟩,.int .i64 0,.int .i64 (-2147483648),.int .i64 2147483647,.bool false,.bool false,.string ⟨#[115,101,108,101,99,116]⟩,.int .i64 3,.int .i64 1,.int .i64 0,.bool false,.bool false,.string ⟨#[104,111,108,100]⟩,.int .i64 2,.int .i64 1,.int .i64 0,.bool false,.bool false,.string ⟨#[99,111,109,98]⟩,.int .i64 1,.int .i64 (-2147483648),.int .i64 2147483647,.bool true,.bool true]
theorem c_kinds (w:World):Calls Tryz.prog 169 #[] w fun e w'=>e= .returned (.slice (some ⟨w.heap.size,0,none⟩) 17 17)∧w'=w.alloc (.cells xLz 201):=by
 go_enter Tryz.func169,Tryz.ntmps169
 go_wp2;go_ret
 exact⟨rfl,rfl⟩
theorem kndCells_at {i:Nat} (h:i<17):xLz[i * 6]?=some (.string (kndName i))∧xLz[i * 6+1]?=some (.int .i64 (kndL.getD i ⟨0,0,0,false,false⟩).inputs)∧xLz[i * 6+2]?=some (.int .i64 (kndL.getD i ⟨0,0,0,false,false⟩).low)∧xLz[i * 6+3]?=some (.int .i64 (kndL.getD i ⟨0,0,0,false,false⟩).high)∧xLz[i * 6+4]?=some (.bool (kndL.getD i ⟨0,0,0,false,false⟩).linear)∧xLz[i * 6+5]?=some (.bool (kndL.getD i ⟨0,0,0,false,false⟩).hasB):=by
 have:i=0∨i=1∨i=2∨i=3∨i=4∨i=5∨i=6∨i=7∨i=8∨i=9∨i=10∨i=11∨i=12∨i=13∨i=14∨i=15∨i=16:=by omega
 rcases this with rfl|rfl|rfl|rfl|rfl|rfl|rfl|rfl|rfl|rfl|rfl|rfl|rfl|rfl|rfl|rfl|rfl
 all_goals exact⟨rfl,rfl,rfl,rfl,rfl,rfl⟩
theorem c_isKind (n:Int) (w:World):Calls Tryz.prog 168 #[.int .i64 n] w fun e w'=>e= .returned (.bool (inB n 1 17))∧w=w':=by
 go_enter Tryz.func168,Tryz.ntmps168
 go_wp2_with (go_at_call 47;refine(xX _ _ _ _).mono ?_;rintro e w' ⟨rfl,rfl⟩)
 go_ret
 exact⟨rfl,rfl⟩
theorem c_hasA (s:ByteArray) (a lo hi:Int) (l hb:Bool) (w:World):Calls Tryz.prog 170 #[.agg #[.string s,.int .i64 a,.int .i64 lo,.int .i64 hi,.bool l,.bool hb]] w fun e w'=>e= .returned (.bool (decide (lo≤hi)))∧Below w.heap.size w w':=by
 have HB:=xN (show Below w.heap.size w (w.alloc (.cells #[.string s,.int .i64 a,.int .i64 lo,.int .i64 hi,.bool l,.bool hb] 201)) from zR.alloc zJ _)
 go_enter Tryz.func170,Tryz.ntmps170
 go_wp2;go_ret
 exact⟨rfl,HB.o⟩
end
end Go.Proofs.YtdcofkabaigjpaaGreat
