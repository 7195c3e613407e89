/- Contracts: what is valid, by the program: lists, clips, names, sends. Contracts: check values, two bytes, the head of a store. Contracts: what is valid, by the program: names, sends, mixers, tracks. Contracts: what is valid, by the program: tracks, mixers. -/
import Derived.Test.YtoibekfhepnedaaGreatQAbExactMakeCache
import Derived.Deep.RegionHeld3
import Derived.Deep.RegionWith
import Derived.Maps.Own
set_option linter.unusedVariables false
set_option linter.unusedSimpArgs false
set_option maxHeartbeats 2000000
set_option maxRecDepth 20000
namespace Go.Proofs.YtoibekfhepnedaaGreat
section
open Go.RowKit
theorem xC {n a b:Int} :inB n a b=true↔a≤n∧n≤b:=by simp[inB]
theorem inB_not {n a b:Int} (h:inB n a b=false) (k:a≤n∧n≤b):False:=by simp[inB] at h;omega
theorem wQ (v:Value) (xs:List Int) (n:Int) (w:World) (hr:RdI w v xs) (h0:0≤n) (h1:n≤9223372036854775807):Calls Tryz.prog 105 #[v,.int .i64 n] w fun e w'=>e= .returned (.bool (tf (Idx xs n)))∧w=w':=by
 obtain⟨A,cap,rfl,hl,hc,hx⟩:=hr.open_
 have HX:=hide hx;clear hx hr
 go_enter Tryz.func105,Tryz.ntmps105
 go_wp2
 go_loop [9] (fun i=> ∃ k:Nat,k≤xs.length∧i= .int .i64 k∧vI xs (fun _ x=>0≤x∧x≤n - 1) k) (fun i=>xs.length - (intOf i).toNat)
 case atStart=>exact⟨0,Nat.zero_le _,rfl,vI.zero⟩
 case round=>
  obtain⟨k,hk,rfl,hs⟩:=hrel
  have HS:=hide hs;clear hs
  by_cases hlt:k<xs.length
  ·have hgk:=gE hlt
   obtain⟨b,off,rfl,hb,hcell⟩:=HX.out k xs[k] hgk
   generalize xs[k]=x at *
   have HG:=hide hgk;clear hgk
   by_cases hq:inB x 0 (n - 1)=true
   ·go_wp2_with (go_at_call 89;refine(xS _ _ _ _).mono ?_;rintro e w' ⟨rfl,rfl⟩)
    go_round
    case rel=>exact⟨k+1,by omega,by go_num,HS.out.step HG.out (xC.1 hq)⟩
    case measure=>simp[intOf];omega
   ·have hq':inB x 0 (n - 1)=false:=by simpa using hq
    clear hq
    go_wp2_with (go_at_call 89;refine(xS _ _ _ _).mono ?_;rintro e w' ⟨rfl,rfl⟩)
    go_ret
    exact⟨yI (yZ (fun hh=>inB_not hq' (hh k x HG.out))).symm,rfl⟩
  ·have hall:=hide (HS.out.all (by omega))
   go_wp2
   go_ret
   exact⟨yI ((xA hall.out).symm),rfl⟩
theorem c_areSignals (v:Value) (xs:List (List Int)) (w:World) (hr:T.rd w (T.sl 26 1 (xs.map (T.ints 2))) [v]):Calls Tryz.prog 159 #[v] w fun e w'=>e= .returned (.bool (tf (Each xs fun _ l=>sigB l=true)))∧w=w':=by
 obtain⟨A,cap,rfl,hl,hc,hx⟩:=T.yN hr
 have HX:=hide hx;clear hx hr
 go_enter Tryz.func159,Tryz.ntmps159
 go_wp2
 go_loop [7] (fun i=> ∃ k:Nat,k≤xs.length∧i= .int .i64 k∧vI xs (fun _ l=>sigB l=true) k) (fun i=>xs.length - (intOf i).toNat)
 case atStart=>exact⟨0,Nat.zero_le _,rfl,vI.zero⟩
 case round=>
  obtain⟨k,hk,rfl,hs⟩:=hrel
  have HS:=hide hs;clear hs
  by_cases hlt:k<xs.length
  ·have hgk:=gE hlt
   obtain⟨b,off,cs,rfl,hb,hcs,hcell⟩:=HX.out k xs[k] hgk
   generalize xs[k]=l at *
   have HG:=hide hgk;clear hgk
   obtain⟨v3,rfl⟩:=T.rd_one hcs
   have d0:=hcell 0 v3 rfl
   rw[Nat.mul_one,Nat.add_zero] at d0
   have R:=hide (T.yT.1 hcs);clear hcs hcell
   obtain⟨A3,c3,rfl,l3,m3,x3⟩:=R.out.open_
   clear x3
   by_cases hq:sigB l=true
   ·go_wp2_with (go_at_call 219;refine(c_isSignal _ l _ R.out).mono ?_;rintro e w' ⟨rfl,rfl⟩)
    go_round
    case rel=>exact⟨k+1,by omega,by go_num,HS.out.step HG.out hq⟩
    case measure=>simp[intOf];omega
   ·have hq':sigB l=false:=by simpa using hq
    clear hq
    go_wp2_with (go_at_call 219;refine(c_isSignal _ l _ R.out).mono ?_;rintro e w' ⟨rfl,rfl⟩)
    go_ret
    exact⟨yI (yZ (fun hh=>by rw[hh k l HG.out] at hq';exact absurd hq' (by simp))).symm,rfl⟩
  ·have hall:=hide (HS.out.all (by omega));clear HS
   go_wp2
   go_ret
   exact⟨yI (xA hall.out).symm,rfl⟩
theorem uO (v:Value) (xs:List (List Int)) (w:World) (hr:T.rd w (T.sl 26 1 (xs.map (T.ints 2))) [v]):Calls Tryz.prog 103 #[v] w fun e w'=>e= .returned (.bool (tf (zAz xs)))∧w=w':=by
 have R:=hide hr
 obtain⟨A,cap,rfl,hl,hc,hx⟩:=T.yN hr
 clear hx hr
 by_cases h6:xs.length≤6
 ·go_enter Tryz.func103,Tryz.ntmps103
  go_wp2_with (go_at_call 159;refine(c_areSignals _ xs _ R.out).mono ?_;rintro e w' ⟨rfl,rfl⟩)
  go_ret
  exact⟨yI (tf_iff ⟨fun h=>⟨h,h6⟩,fun h=>h.each⟩),rfl⟩
 ·go_enter Tryz.func103,Tryz.ntmps103
  go_wp2
  go_ret
  exact⟨yI (yZ fun h=>h6 h.few).symm,rfl⟩
theorem c_areTables (v:Value) (xs:List (List Int)) (w:World) (hr:T.rd w (T.sl 26 1 (xs.map (T.ints 2))) [v]):Calls Tryz.prog 261 #[v] w fun e w'=>e= .returned (.bool (tf (TablesOk xs)))∧w=w':=by
 obtain⟨A,cap,rfl,hl,hc,hx⟩:=T.yN hr
 have HX:=hide hx;clear hx hr
 go_enter Tryz.func261,Tryz.ntmps261
 go_wp2
 go_loop [8] (fun i=> ∃ k:Nat,k≤xs.length∧i= .int .i64 k∧vI xs (fun _ t=>(t.length=2∨t.length=4∨t.length=8∨t.length=16)∧smpB t=true) k) (fun i=>xs.length - (intOf i).toNat)
 case atStart=>exact⟨0,Nat.zero_le _,rfl,vI.zero⟩
 case round=>
  obtain⟨k,hk,rfl,hs⟩:=hrel
  have HS:=hide hs;clear hs
  by_cases hlt:k<xs.length
  ·have hgk:=gE hlt
   obtain⟨b,off,cs,rfl,hb,hcs,hcell⟩:=HX.out k xs[k] hgk
   generalize xs[k]=l at *
   have HG:=hide hgk;clear hgk
   obtain⟨v3,rfl⟩:=T.rd_one hcs
   have d0:=hcell 0 v3 rfl
   rw[Nat.mul_one,Nat.add_zero] at d0
   have R:=hide (T.yT.1 hcs);clear hcs hcell
   obtain⟨A3,c3,rfl,l3,m3,x3⟩:=R.out.open_
   clear x3
   by_cases hn:l.length=2∨l.length=4∨l.length=8∨l.length=16
   ·by_cases hq:smpB l=true
    ·rcases hn with hn|hn|hn|hn
     ·skip
      have n2:((l.length:Int) != 2)=false:=by simp;omega
      clear hn
      have hn:l.length=2∨l.length=4∨l.length=8∨l.length=16:=by simp at n2;omega
      have HN:=hide hn;clear hn
      go_wp2_with (go_at_call 131;refine(vZ _ l _ R.out).mono ?_;rintro e w' ⟨rfl,rfl⟩)
      go_round
      case rel=>exact⟨k+1,by omega,by go_num,HS.out.step HG.out ⟨HN.out,hq⟩⟩
      case measure=>simp[intOf];omega
     ·skip
      have n2:((l.length:Int) != 2)=true:=by simp;omega
      have n4:((l.length:Int) != 4)=false:=by simp;omega
      clear hn
      have hn:l.length=2∨l.length=4∨l.length=8∨l.length=16:=by simp at n4;omega
      have HN:=hide hn;clear hn
      go_wp2_with (go_at_call 131;refine(vZ _ l _ R.out).mono ?_;rintro e w' ⟨rfl,rfl⟩)
      go_round
      case rel=>exact⟨k+1,by omega,by go_num,HS.out.step HG.out ⟨HN.out,hq⟩⟩
      case measure=>simp[intOf];omega
     ·skip
      have n2:((l.length:Int) != 2)=true:=by simp;omega
      have n4:((l.length:Int) != 4)=true:=by simp;omega
      have n8:((l.length:Int) != 8)=false:=by simp;omega
      clear hn
      have hn:l.length=2∨l.length=4∨l.length=8∨l.length=16:=by simp at n8;omega
      have HN:=hide hn;clear hn
      go_wp2_with (go_at_call 131;refine(vZ _ l _ R.out).mono ?_;rintro e w' ⟨rfl,rfl⟩)
      go_round
      case rel=>exact⟨k+1,by omega,by go_num,HS.out.step HG.out ⟨HN.out,hq⟩⟩
      case measure=>simp[intOf];omega
     ·skip
      have n2:((l.length:Int) != 2)=true:=by simp;omega
      have n4:((l.length:Int) != 4)=true:=by simp;omega
      have n8:((l.length:Int) != 8)=true:=by simp;omega
      have n16:((l.length:Int) != 16)=false:=by simp;omega
      clear hn
      have hn:l.length=2∨l.length=4∨l.length=8∨l.length=16:=by simp at n16;omega
      have HN:=hide hn;clear hn
      go_wp2_with (go_at_call 131;refine(vZ _ l _ R.out).mono ?_;rintro e w' ⟨rfl,rfl⟩)
      go_round
      case rel=>exact⟨k+1,by omega,by go_num,HS.out.step HG.out ⟨HN.out,hq⟩⟩
      case measure=>simp[intOf];omega
    ·have hq':smpB l=false:=by simpa using hq
     clear hq
     rcases hn with hn|hn|hn|hn
     ·skip
      have n2:((l.length:Int) != 2)=false:=by simp;omega
      clear hn
      go_wp2_with (go_at_call 131;refine(vZ _ l _ R.out).mono ?_;rintro e w' ⟨rfl,rfl⟩)
      go_ret
      exact⟨yI (yZ (fun hh=>by rw[(hh.each k l HG.out).2] at hq';exact absurd hq' (by simp))).symm,rfl⟩
     ·skip
      have n2:((l.length:Int) != 2)=true:=by simp;omega
      have n4:((l.length:Int) != 4)=false:=by simp;omega
      clear hn
      go_wp2_with (go_at_call 131;refine(vZ _ l _ R.out).mono ?_;rintro e w' ⟨rfl,rfl⟩)
      go_ret
      exact⟨yI (yZ (fun hh=>by rw[(hh.each k l HG.out).2] at hq';exact absurd hq' (by simp))).symm,rfl⟩
     ·skip
      have n2:((l.length:Int) != 2)=true:=by simp;omega
      have n4:((l.length:Int) != 4)=true:=by simp;omega
      have n8:((l.length:Int) != 8)=false:=by simp;omega
      clear hn
      go_wp2_with (go_at_call 131;refine(vZ _ l _ R.out).mono ?_;rintro e w' ⟨rfl,rfl⟩)
      go_ret
      exact⟨yI (yZ (fun hh=>by rw[(hh.each k l HG.out).2] at hq';exact absurd hq' (by simp))).symm,rfl⟩
     ·skip
      have n2:((l.length:Int) != 2)=true:=by simp;omega
      have n4:((l.length:Int) != 4)=true:=by simp;omega
      have n8:((l.length:Int) != 8)=true:=by simp;omega
      have n16:((l.length:Int) != 16)=false:=by simp;omega
      clear hn
      go_wp2_with (go_at_call 131;refine(vZ _ l _ R.out).mono ?_;rintro e w' ⟨rfl,rfl⟩)
      go_ret
      exact⟨yI (yZ (fun hh=>by rw[(hh.each k l HG.out).2] at hq';exact absurd hq' (by simp))).symm,rfl⟩
   ·have n2:((l.length:Int) != 2)=true:=by simp;omega
    have n4:((l.length:Int) != 4)=true:=by simp;omega
    have n8:((l.length:Int) != 8)=true:=by simp;omega
    have n16:((l.length:Int) != 16)=true:=by simp;omega
    go_wp2
    go_ret
    exact⟨yI (yZ (fun hh=>hn (hh.each k l HG.out).1)).symm,rfl⟩
  ·have hall:=hide (HS.out.all (by omega));clear HS
   by_cases h4:xs.length≤4
   ·go_wp2
    go_ret
    exact⟨yI (by rw[xA ⟨hall.out,h4⟩];simp;omega),rfl⟩
   ·go_wp2
    go_ret
    exact⟨yI (by rw[yZ fun h=>h4 h.few];simp;omega),rfl⟩
theorem c_isClip (x:xL) (cs:List Value) (w:World) (h:T.rds w x.fs cs):Calls Tryz.prog 162 #[.agg cs.toArray] w fun e w'=>e= .returned (.bool (tf (ClipOk x)))∧Below w.heap.size w w':=by
 obtain rfl:=xL.yO h
 clear h
 have HB0:=hide (show Below w.heap.size w (w.alloc (.cells #[.int .i64 x.zU,.int .i64 x.zH,.int .i64 x.zF,.int .i64 x.zX,.int .i64 x.zS] 39)) from(Below.refl _ _).alloc (Nat.le_refl _) _)
 have HK0:=hide (Bk.born w 39 #[.int .i64 x.zU,.int .i64 x.zH,.int .i64 x.zF,.int .i64 x.zX,.int .i64 x.zS])
 go_enter Tryz.func162,Tryz.ntmps162
 by_cases h1:inB x.zU 0 5=true
 rotate_left
 ·have hq:inB x.zU 0 5=false:=by simpa using h1
  go_wp2_with (go_at_call 89;refine(xS _ _ _ _).mono ?_;rintro e w' ⟨rfl,rfl⟩)
  go_ret
  exact⟨yI (yZ fun hh=>by exact h1 hh.source).symm,HB0.out⟩
 by_cases h2:inB x.zF 1 4000=true
 rotate_left
 ·have hq:inB x.zF 1 4000=false:=by simpa using h2
  go_wp2_with (go_at_call 89;refine(xS _ _ _ _).mono ?_;rintro e w' ⟨rfl,rfl⟩)
  go_ret
  exact⟨yI (yZ fun hh=>by exact h2 hh.length).symm,HB0.out⟩
 have hb:=xC.1 h2
 by_cases h3:inB x.zH 0 (4000 - x.zF)=true
 rotate_left
 ·have hq:inB x.zH 0 (4000 - x.zF)=false:=by simpa using h3
  go_wp2_with (go_at_call 89;refine(xS _ _ _ _).mono ?_;rintro e w' ⟨rfl,rfl⟩)
  go_ret
  exact⟨yI (yZ fun hh=>by exact h3 hh.from_).symm,HB0.out⟩
 by_cases h4:inB x.zX 0 (4000 - x.zF)=true
 rotate_left
 ·have hq:inB x.zX 0 (4000 - x.zF)=false:=by simpa using h4
  go_wp2_with (go_at_call 89;refine(xS _ _ _ _).mono ?_;rintro e w' ⟨rfl,rfl⟩)
  go_ret
  exact⟨yI (yZ fun hh=>by exact h4 hh.at_).symm,HB0.out⟩
 by_cases h5:Smp x.zS
 rotate_left
 ·have hq:decide (Smp x.zS)=false:=by simpa using h5
  go_wp2_with (first|(go_at_call 89;refine(xS _ _ _ _).mono ?_;rintro e w' ⟨rfl,rfl⟩)|(go_at_call 169;refine(c_isSample _ _).mono ?_;rintro e w' ⟨rfl,rfl⟩))
  go_ret
  exact⟨yI (yZ fun hh=>by exact h5 hh.gain).symm,HB0.out⟩
 have hq:decide (Smp x.zS)=true:=by simpa using h5
 go_wp2_with (first|(go_at_call 89;refine(xS _ _ _ _).mono ?_;rintro e w' ⟨rfl,rfl⟩)|(go_at_call 169;refine(c_isSample _ _).mono ?_;rintro e w' ⟨rfl,rfl⟩))
 go_ret
 exact⟨yI (by rw[xA ⟨h1,h2,h3,h4,h5⟩]),HB0.out⟩
end
section
open Go.RowKit
end
section
open Go.RowKit Go.WideMaps Go.Maps
theorem uB (A:Option Addr) (n c:Nat) (w:World) (h:n≤9223372036854775807):Calls Tryz.prog 102 #[.slice A n c] w fun e w'=>e= .returned (.int .i64 (n:Int))∧w=w':=by
 go_enter Tryz.func102,Tryz.ntmps102
 go_wp2
 go_ret
 exact⟨rfl,rfl⟩
theorem uU (A:Option Addr) (n c:Nat) (w:World) (h:n≤9223372036854775807):Calls Tryz.prog 106 #[.slice A n c] w fun e w'=>e= .returned (.int .i64 (n:Int))∧w=w':=by
 go_enter Tryz.func106,Tryz.ntmps106
 go_wp2
 go_ret
 exact⟨rfl,rfl⟩
theorem c_sizeLL (A:Option Addr) (n c:Nat) (w:World) (h:n≤9223372036854775807):Calls Tryz.prog 109 #[.slice A n c] w fun e w'=>e= .returned (.int .i64 (n:Int))∧w=w':=by
 go_enter Tryz.func109,Tryz.ntmps109
 go_wp2
 go_ret
 exact⟨rfl,rfl⟩
theorem c_sizeSend (A:Option Addr) (n c:Nat) (w:World) (h:n≤9223372036854775807):Calls Tryz.prog 168 #[.slice A n c] w fun e w'=>e= .returned (.int .i64 (n:Int))∧w=w':=by
 go_enter Tryz.func168,Tryz.ntmps168
 go_wp2
 go_ret
 exact⟨rfl,rfl⟩
theorem c_sizeNode (A:Option Addr) (n c:Nat) (w:World) (h:n≤9223372036854775807):Calls Tryz.prog 260 #[.slice A n c] w fun e w'=>e= .returned (.int .i64 (n:Int))∧w=w':=by
 go_enter Tryz.func260,Tryz.ntmps260
 go_wp2
 go_ret
 exact⟨rfl,rfl⟩
theorem c_IsName (s:ByteArray) (w:World):Calls Tryz.prog 160 #[.string s] w fun e w'=>e= .returned (.bool (tf (NameOk s)))∧w=w':=by
 by_cases h1:1≤s.size
 rotate_left
 ·go_enter Tryz.func160,Tryz.ntmps160
  go_wp2
  go_ret
  exact⟨yI (yZ fun h=>h1 h.some_).symm,rfl⟩
 by_cases h2:s.size≤10
 rotate_left
 ·go_enter Tryz.func160,Tryz.ntmps160
  go_wp2
  go_ret
  exact⟨yI (yZ fun h=>h2 h.few).symm,rfl⟩
 go_enter Tryz.func160,Tryz.ntmps160
 go_wp2
 go_loop [3] (fun i=> ∃ k:Nat,k≤s.size∧i= .int .i64 k∧ ∀ i,i<k→smallN (bA s i)∨(digitN (bA s i)∧i≠0)) (fun i=>s.size - (intOf i).toNat)
 case atStart=>exact⟨0,Nat.zero_le _,rfl,fun i h=>absurd h (by omega)⟩
 case round=>
  obtain⟨k,hk,rfl,hs⟩:=hrel
  have HS:=hide hs;clear hs
  by_cases hlt:k<s.size
  ·have hb:=bA_lt s k
   have hg:=bA_get hlt
   have HX:Sec (∀ p:Prop,p→p):=⟨fun _ h=>h⟩
   generalize hy:bA s k=y at *
   have HY:=hide hy;clear hy
   by_cases a1:97≤y
   ·by_cases a2:y≤122
    ·by_cases a3:48≤y
     ·by_cases a4:y≤57
      ·omega
      ·have n1:decide ((y:Int)≤122)=true:=decide_eq_true (by omega)
       have n2:decide ((y:Int)≤57)=false:=decide_eq_false (by omega)
       go_wp2
       go_round
       case rel=>exact⟨k+1,by omega,by go_num,fun i hi=>by
        by_cases e:i=k
        ·subst e;rw[HY.out];exact .inl ⟨a1,a2⟩
        ·exact HS.out i (by omega)⟩
       case measure=>simp[intOf];omega
     ·omega
    ·by_cases a4:y≤57
     ·omega
     ·have n1:decide ((y:Int)≤122)=false:=decide_eq_false (by omega)
      have n2:decide ((y:Int)≤57)=false:=decide_eq_false (by omega)
      go_wp2
      go_ret
      exact⟨yI (yZ fun h=>by rcases h.each k hlt with h|h<;>rw[HY.out] at h<;>(simp only[smallN,digitN] at h;omega)).symm,rfl⟩
   ·by_cases a3:48≤y
    ·by_cases a4:y≤57
     ·have n2:decide ((y:Int)≤57)=true:=decide_eq_true (by omega)
      by_cases a5:k=0
      ·subst a5
       go_wp2
       go_ret
       exact⟨yI (yZ fun h=>by rcases h.each 0 hlt with h|h<;>rw[HY.out] at h<;>(simp only[smallN,digitN] at h;omega)).symm,rfl⟩
      ·have a6:((k:Int) == 0)=false:=by simp;omega
       have A5:=hide a5;clear a5
       go_wp2
       go_round
       case rel=>exact⟨k+1,by omega,by go_num,fun i hi=>by
        by_cases e:i=k
        ·subst e;rw[HY.out];exact .inr ⟨⟨a3,a4⟩,A5.out⟩
        ·exact HS.out i (by omega)⟩
       case measure=>simp[intOf];omega
     ·have n2:decide ((y:Int)≤57)=false:=decide_eq_false (by omega)
      go_wp2
      go_ret
      exact⟨yI (yZ fun h=>by rcases h.each k hlt with h|h<;>rw[HY.out] at h<;>(simp only[smallN,digitN] at h;omega)).symm,rfl⟩
    ·go_wp2
     go_ret
     exact⟨yI (yZ fun h=>by rcases h.each k hlt with h|h<;>rw[HY.out] at h<;>(simp only[smallN,digitN] at h;omega)).symm,rfl⟩
  ·go_wp2
   go_ret
   exact⟨yI (xA ⟨h1,h2,fun i hi=>HS.out i (by omega)⟩).symm,rfl⟩
theorem befS_succ {l:List xM} {p:Int} {k:Nat} {y:xM} (h:l[k]?=some y):befS l p (k+1)=y.zW:=by
 unfold befS
 rw[if_neg (by omega),Nat.add_sub_cancel,List.getD_eq_getElem?_getD,h];rfl
theorem c_areSends (v:Value) (xs:List xM) (p n:Int) (w:World) (p0:0≤p) (p1:p≤1048576) (n0:0≤n) (n1:n≤1048576) (hr:T.rd w (T.sl 98 2 (xs.map xM.t)) [v]):Calls Tryz.prog 161 #[v,.int .i64 p,.int .i64 n] w fun e w'=>e= .returned (.bool (tf (SendsOk xs p n)))∧Below w.heap.size w w':=by
 obtain⟨A,cap,rfl,hl,hc,hx⟩:=T.yN hr
 have HX:=hide hx;clear hx hr
 go_enter Tryz.func161,Tryz.ntmps161
 go_wp2
 go_loopw [7,13] (fun b i wr=> ∃ (k:Nat) (bf:Int),k≤xs.length∧i= .int .i64 k∧b= .int .i64 bf∧bf=befS xs p k∧0≤bf∧bf≤1048576∧vI xs (fun i x=>inB x.zW (befS xs p i+1) (n - 1)=true∧Smp x.zS) k∧Below w.heap.size w wr) (fun _ i _=>xs.length - (intOf i).toNat)
 case atStart=>exact⟨0,p,Nat.zero_le _,rfl,rfl,rfl,p0,p1,vI.zero,Below.refl _ _⟩
 case round=>
  obtain⟨k,bf,hk,rfl,rfl,hbf,b0,b1,hs,hbw⟩:=hrel
  have HS:=hide hs;have HB:=hide hbw;have HBF:=hide hbf;clear hs hbw hbf
  by_cases hlt:k<xs.length
  ·have hgk:=gE hlt
   obtain⟨b,off,cs,rfl,hb,hcs,hcell⟩:=HX.out k xs[k] hgk
   generalize xs[k]=y at *
   have HG:=hide hgk;clear hgk
   obtain rfl:=xM.yO (show T.rds _ _ _ by simpa only[xM.t,T.rd] using hcs)
   have d0:=(HB.out.cell hb).trans (hcell 0 (.int .i64 y.zW) rfl)
   have d1:=(HB.out.cell hb).trans (hcell 1 (.int .i64 y.zS) rfl)
   rw[show off+(k * 2+0)=off+k * 2 by omega] at d0
   rw[show off+(k * 2+1)=off+k * 2+1 by omega] at d1
   clear hcs hcell
   have hq:b<wr.heap.size:=lL hb HB.out.size
   have hB:=HB.out;have hsz:=HB.out.size
   by_cases q1:inB y.zW (bf+1) (n - 1)=true
   rotate_left
   ·have q1':inB y.zW (bf+1) (n - 1)=false:=by simpa using q1
    go_wp2_with (first|(go_at_call 89;refine(xS _ _ _ _).mono ?_;rintro e w' ⟨rfl,rfl⟩)|(go_at_call 169;refine(c_isSample _ _).mono ?_;rintro e w' ⟨rfl,rfl⟩))
    go_ret
    exact⟨yI (yZ fun h=>by have:=(h.each k y HG.out).1;rw[←HBF.out] at this;exact q1 this).symm,ba⟩
   have i1:=xC.1 q1
   by_cases q2:Smp y.zS
   rotate_left
   ·have q2':decide (Smp y.zS)=false:=decide_eq_false q2
    have Q2:=hide q2;clear q2
    go_wp2_with (first|(go_at_call 89;refine(xS _ _ _ _).mono ?_;rintro e w' ⟨rfl,rfl⟩)|(go_at_call 169;refine(c_isSample _ _).mono ?_;rintro e w' ⟨rfl,rfl⟩))
    go_ret
    exact⟨yI (yZ fun h=>Q2.out (h.each k y HG.out).2).symm,ba⟩
   have q2':decide (Smp y.zS)=true:=decide_eq_true q2
   have Q2:=hide q2;have Q1:=hide q1;clear q2
   go_wp2_with (first|(go_at_call 89;refine(xS _ _ _ _).mono ?_;rintro e w' ⟨rfl,rfl⟩)|(go_at_call 169;refine(c_isSample _ _).mono ?_;rintro e w' ⟨rfl,rfl⟩))
   go_roundw
   case rel=>exact⟨k+1,y.zW,by omega,by go_num,rfl,(befS_succ HG.out).symm,by omega,by omega,HS.out.step HG.out ⟨by rw[←HBF.out];exact Q1.out,Q2.out⟩,ba⟩
   case measure=>simp[intOf];omega
  ·have hall:=hide (HS.out.all (by omega));clear HS
   have hB:=HB.out
   by_cases hp:p=n - 1
   ·by_cases hz:xs.length=0
    ·have z1:((xs.length:Int) == 0)=true:=yS (by omega)
     have HZ:=hide hz;have HP:=hide hp;have z2:(p == n - 1)=true:=by simp[hp]
     clear hz hp
     go_wp2
     go_ret
     exact⟨yI (xA ⟨hall.out,fun _=>HZ.out,fun h=>absurd HP.out h⟩).symm,HB.out⟩
    ·have z1:((xs.length:Int) == 0)=false:=yR (by omega)
     have HZ:=hide hz;have HP:=hide hp;have z2:(p == n - 1)=true:=by simp[hp]
     clear hz hp
     go_wp2
     go_ret
     exact⟨yI (yZ fun h=>HZ.out (h.last HP.out)).symm,HB.out⟩
   ·have z2:(p == n - 1)=false:=by simp[hp]
    have HP:=hide hp;clear hp
    go_wp2_with (first|(go_at_call 89;refine(xS _ _ _ _).mono ?_;rintro e w' ⟨rfl,rfl⟩)|(go_at_call 168;refine(c_sizeSend _ _ _ _ (by omega)).mono ?_;rintro e w' ⟨rfl,rfl⟩))
    go_ret
    exact⟨yI (by
     by_cases hz:1≤xs.length∧xs.length≤4
     ·rw[xA ⟨hall.out,fun h=>absurd h HP.out,fun _=>hz⟩];exact xC.2 (by omega)
     ·rw[yZ fun h=>hz (h.few HP.out)];exact inB_false.2 (by omega)),HB.out⟩
end
section
open Go.RowKit Go.WideMaps Go.Maps
theorem c_hasSrc1 (x:xL) (n:Int) (b:Nat) (w:World) (hb:b<w.heap.size) (hc:w.cell? ⟨b,0,none⟩=some (.int .i64 n)):Calls Tryz.prog 164 #[.agg #[.int .i64 x.zU,.int .i64 x.zH,.int .i64 x.zF,.int .i64 x.zX,.int .i64 x.zS],.pointer (some ⟨b,0,none⟩)] w fun e w'=>e= .returned (.bool (decide (n≤x.zU)))∧Below w.heap.size w w':=by
 have hB:Below w.heap.size w (w.alloc (.cells #[.int .i64 x.zU,.int .i64 x.zH,.int .i64 x.zF,.int .i64 x.zX,.int .i64 x.zS] 39)):=(Below.refl _ _).alloc (Nat.le_refl _) _
 have HB:=hide hB;clear hB
 go_enter Tryz.func164,Tryz.ntmps164
 go_wp2
 go_ret
 exact⟨rfl,HB.out⟩
theorem c_idxSrc (v:Value) (xs:List xL) (n:Int) (b:Nat) (w:World) (hb:b<w.heap.size) (hcb:w.cell? ⟨b,0,none⟩=some (.int .i64 n)) (hr:T.rd w (T.sl 39 5 (xs.map xL.t)) [v]):Calls Tryz.prog 220 #[v,.func (.func 164) #[] #[.pointer (some ⟨b,0,none⟩)]] w fun e w'=> ∃ r:Int,e= .returned (.int .i64 r)∧(0≤r↔ ∃ x ∈ xs,n≤x.zU)∧Below w.heap.size w w':=by
 obtain⟨A,cap,rfl,hl,hc,hx⟩:=T.yN hr
 have HX:=hide hx;clear hx hr
 have BB:=hide (And.intro hb hcb);clear hb hcb
 go_enter Tryz.func220,Tryz.ntmps220
 go_wp2
 go_loopw [8] (fun i wr=> ∃ k:Nat,k≤xs.length∧i= .int .i64 k∧vI xs (fun _ x=>x.zU<n) k∧Below w.heap.size w wr) (fun i _=>xs.length - (intOf i).toNat)
 case atStart=>exact⟨0,Nat.zero_le _,rfl,vI.zero,Below.refl _ _⟩
 case round=>
  obtain⟨k,hk,rfl,hs,hbw⟩:=hrel
  have HS:=hide hs;have HB:=hide hbw;clear hs hbw
  by_cases hlt:k<xs.length
  ·have hgk:=gE hlt
   obtain⟨b1,off,cs,rfl,hb1,hcs,hcell⟩:=HX.out k xs[k] hgk
   generalize xs[k]=x at *
   have HG:=hide hgk;clear hgk
   obtain rfl:=xL.yO (show T.rds _ _ _ by simpa only[xL.t,T.rd] using hcs)
   have d0:=(HB.out.cell hb1).trans (hcell 0 (.int .i64 x.zU) rfl)
   have d1:=(HB.out.cell hb1).trans (hcell 1 (.int .i64 x.zH) rfl)
   have d2:=(HB.out.cell hb1).trans (hcell 2 (.int .i64 x.zF) rfl)
   have d3:=(HB.out.cell hb1).trans (hcell 3 (.int .i64 x.zX) rfl)
   have d4:=(HB.out.cell hb1).trans (hcell 4 (.int .i64 x.zS) rfl)
   rw[show off+(k * 5+0)=off+k * 5 by omega] at d0
   rw[show off+(k * 5+1)=off+k * 5+1 by omega] at d1
   rw[show off+(k * 5+2)=off+k * 5+2 by omega] at d2
   rw[show off+(k * 5+3)=off+k * 5+3 by omega] at d3
   rw[show off+(k * 5+4)=off+k * 5+4 by omega] at d4
   clear hcs hcell
   by_cases hq:n≤x.zU
   ·have hd:decide (n≤x.zU)=true:=decide_eq_true hq
    have HQ:=hide hq;clear hq
    go_wp2_with (go_at_call 164;refine(c_hasSrc1 x n b _ (lL BB.out.1 HB.out.size) ((HB.out.cell BB.out.1).trans BB.out.2)).mono ?_;rintro e w3 ⟨rfl,hb3⟩;rw[hd])
    have HB3:=hide (yJ HB.out HB.out.size hb3);clear hb3
    go_wp2
    go_ret
    exact⟨_,rfl,⟨fun _=>⟨x,List.mem_of_getElem? HG.out,HQ.out⟩,fun _=>by omega⟩,HB3.out⟩
   ·have hd:decide (n≤x.zU)=false:=decide_eq_false hq
    have HQ:=hide hq;clear hq
    go_wp2_with (go_at_call 164;refine(c_hasSrc1 x n b _ (lL BB.out.1 HB.out.size) ((HB.out.cell BB.out.1).trans BB.out.2)).mono ?_;rintro e w3 ⟨rfl,hb3⟩;rw[hd])
    have HB3:=hide (yJ HB.out HB.out.size hb3);clear hb3
    go_wp2
    go_roundw
    case rel=>exact⟨k+1,by omega,by go_num,HS.out.step HG.out (by have:=HQ.out;omega),HB3.out⟩
    case measure=>simp[intOf];omega
  ·have hall:=hide (HS.out.all (by omega));clear HS
   go_wp2
   go_ret
   exact⟨-1,rfl,⟨fun h=>absurd h (by omega),fun⟨x,hx,hp⟩=>by
    obtain⟨i,hi,rfl⟩:=List.mem_iff_getElem.1 hx
    have:=hall.out i _ (gE hi);omega⟩,HB.out⟩
theorem c_anySrc (v:Value) (xs:List xL) (n:Int) (b:Nat) (w:World) (hb:b<w.heap.size) (hcb:w.cell? ⟨b,0,none⟩=some (.int .i64 n)) (hr:T.rd w (T.sl 39 5 (xs.map xL.t)) [v]):Calls Tryz.prog 163 #[v,.func (.func 164) #[] #[.pointer (some ⟨b,0,none⟩)]] w fun e w'=>e= .returned (.bool (tf (∃ x ∈ xs,n≤x.zU)))∧Below w.heap.size w w':=by
 have HR:=hide hr;have BB:=hide (And.intro hb hcb);clear hb hcb
 obtain⟨A,cap,rfl,hl,hc,hx⟩:=T.yN hr
 clear hx hr
 go_enter Tryz.func163,Tryz.ntmps163
 go_wp2_with (go_at_call 220;refine(c_idxSrc _ xs n b _ BB.out.1 BB.out.2 HR.out).mono ?_;rintro e w3 ⟨r,rfl,hiff,hb3⟩;have HI:=hide hiff;have H3:=hide hb3;clear hiff hb3)
 go_ret
 exact⟨yI (by rw[←tf_dec];exact tf_iff HI.out),H3.out⟩
theorem c_hasSources (x:xI) (cs:List Value) (n:Int) (w:World) (h:T.rds w x.fs cs):Calls Tryz.prog 108 #[.agg cs.toArray,.int .i64 n] w fun e w'=>e= .returned (.bool (tf (∀ c ∈ x.zR,c.zU<n)))∧Below w.heap.size w w':=by
 obtain⟨v0,rfl,h0⟩:=xI.yO h
 clear h
 have R0:=hide h0;obtain⟨va0,vc0,rfl,vl0,vm0,vx0⟩:=T.yN h0
 have HX0:=hide vx0;clear vx0 h0
 have HB0:=hide (show Below w.heap.size w (w.alloc (.cells #[(.slice va0 x.zR.length vc0)] 96)) from(Below.refl _ _).alloc (Nat.le_refl _) _)
 have HK0:=hide (Bk.born w 96 #[(.slice va0 x.zR.length vc0)])
 have hmf: ∀ (fn:Fn) (first cap:Array Value) (w:World),(Instr.makeFunc fn first cap).run Tryz.prog w= .ok (.func fn first cap) w:=fun _ _ _ _=>by simp[go_sem,Instr.makeFunc]
 have hb1:Below w.heap.size w ((w.alloc (.cells #[(.slice va0 x.zR.length vc0)] 96)).alloc (.cells #[.int .i64 n] 2)):=HB0.out.alloc (by simp) _
 have H1:=hide hb1;clear hb1
 have hsz1:((w.alloc (.cells #[(.slice va0 x.zR.length vc0)] 96)).alloc (.cells #[.int .i64 n] 2)).heap.size=w.heap.size+2:=by simp
 have Hsz:=hide hsz1;clear hsz1
 go_enter Tryz.func108,Tryz.ntmps108
 go_wp2_with (go_at_call 163;refine(c_anySrc _ x.zR n (w.heap.size+1) _ (by rw[Hsz.out];omega) (by simp) (T.yF R0.out H1.out)).mono ?_;rintro e w3 ⟨rfl,hb3⟩;have H3:=hide (yJ H1.out (by rw[Hsz.out];omega) hb3);clear hb3)
 go_ret
 exact⟨yI (by
  by_cases hc: ∃ c ∈ x.zR,n≤c.zU
  ·rw[xA hc,yZ (fun h=>by obtain⟨c,hc1,hc2⟩:=hc;have:=h c hc1;omega)];rfl
  ·rw[yZ hc,xA (fun c h=>Int.not_le.1 fun k=>hc ⟨c,h,k⟩)];rfl),H3.out⟩
theorem c_isTrack (x:xI) (cs:List Value) (w:World) (h:T.rds w x.fs cs):Calls Tryz.prog 107 #[.agg cs.toArray] w fun e w'=>e= .returned (.bool (tf (TrackOk x)))∧Below w.heap.size w w':=by
 obtain⟨v0,rfl,h0⟩:=xI.yO h
 clear h
 have R0:=hide h0;obtain⟨va0,vc0,rfl,vl0,vm0,vx0⟩:=T.yN h0
 have HX0:=hide vx0;clear vx0 h0
 have HB0:=hide (show Below w.heap.size w (w.alloc (.cells #[(.slice va0 x.zR.length vc0)] 96)) from(Below.refl _ _).alloc (Nat.le_refl _) _)
 have HK0:=hide (Bk.born w 96 #[(.slice va0 x.zR.length vc0)])
 go_enter Tryz.func107,Tryz.ntmps107
 go_wp2
 go_loopw [8] (fun i wr=> ∃ k:Nat,k≤x.zR.length∧i= .int .i64 k∧vI x.zR (fun i c=>ClipOk c∧ ∀ p,0<i→x.zR[i - 1]?=some p→p.zX≤c.zX) k∧Below (w.alloc (.cells #[(.slice va0 x.zR.length vc0)] 96)).heap.size (w.alloc (.cells #[(.slice va0 x.zR.length vc0)] 96)) wr) (fun i _=>x.zR.length - (intOf i).toNat)
 case atStart=>exact⟨0,Nat.zero_le _,rfl,vI.zero,Below.refl _ _⟩
 case round=>
  obtain⟨k,hk,rfl,hs,hbw⟩:=hrel
  have HS:=hide hs;have HW:=hide hbw;have HB:=hide (yJ HB0.out HB0.out.size hbw);have HK:=hide (HK0.out.below hbw HK0.out.lt);clear hs hbw
  have ka:=HK.out.cell;have la:=HK.out.lt
  by_cases hlt:k<x.zR.length
  rotate_left
  ·have hall:=hide (HS.out.all (by omega));clear HS
   by_cases h12:x.zR.length≤12
   ·go_wp2
    go_ret
    exact⟨yI (by rw[xA ⟨hall.out,h12⟩];exact decide_eq_true (by omega)),HB.out⟩
   ·go_wp2
    go_ret
    exact⟨yI (by rw[yZ fun h=>h12 h.few];exact decide_eq_false (by omega)),HB.out⟩
  have hgk:=gE hlt
  obtain⟨b1,off,cs1,hA,hb1,hcs,hcell⟩:=HX0.out k x.zR[k] hgk
  subst hA
  generalize x.zR[k]=y at *
  have HG:=hide hgk;clear hgk
  obtain rfl:=xL.yO (show T.rds _ _ _ by simpa only[xL.t,T.rd] using hcs)
  have d0:=(HB.out.cell hb1).trans (hcell 0 (.int .i64 y.zU) rfl)
  have d1:=(HB.out.cell hb1).trans (hcell 1 (.int .i64 y.zH) rfl)
  have d2:=(HB.out.cell hb1).trans (hcell 2 (.int .i64 y.zF) rfl)
  have d3:=(HB.out.cell hb1).trans (hcell 3 (.int .i64 y.zX) rfl)
  have d4:=(HB.out.cell hb1).trans (hcell 4 (.int .i64 y.zS) rfl)
  rw[show off+(k * 5+0)=off+k * 5 by omega] at d0
  rw[show off+(k * 5+1)=off+k * 5+1 by omega] at d1
  rw[show off+(k * 5+2)=off+k * 5+2 by omega] at d2
  rw[show off+(k * 5+3)=off+k * 5+3 by omega] at d3
  rw[show off+(k * 5+4)=off+k * 5+4 by omega] at d4
  clear hcs hcell
  have hq1:b1<wr.heap.size:=lL hb1 HB.out.size
  have hT0:= @xL.rd_mk
  clear hT0
  by_cases hk0:k=0
  ·have g0':decide (0<k)=false:=decide_eq_false (by omega)
   have K0:=hide hk0;clear hk0
   by_cases q1:ClipOk y
   ·have a1:=xA q1
    have Q1:=hide q1;clear q1
    have hWb:Below wr.heap.size wr (wr.alloc (.cells #[.int .i64 y.zU,.int .i64 y.zH,.int .i64 y.zF,.int .i64 y.zX,.int .i64 y.zS] 39)):=(Below.refl _ _).alloc (Nat.le_refl _) _
    have hNb:=Bk.born wr 39 #[.int .i64 y.zU,.int .i64 y.zH,.int .i64 y.zF,.int .i64 y.zX,.int .i64 y.zS]
    go_wp2
    generalize wr.alloc (.cells #[.int .i64 y.zU,.int .i64 y.zH,.int .i64 y.zF,.int .i64 y.zX,.int .i64 y.zS] 39)=W at *
    have HWb:=hide hWb;have HNb:=hide hNb;have HKW:=hide (HK.out.below hWb HK.out.lt)
    have g0:=xE hNb;have g1:=xE HKW.out
    clear hWb hNb
    refine xD (by kernel_rfl) (by kernel_rfl) ?_
    repeat(first|go_big_quiet_skip|(go_big_quiet_want;go_big_quiet_op;first|go_big_quiet_on|(apply Exists.intro;refine⟨fun _=>?_,?_⟩;(· (go_at_call 162;exact Calls.yL ((c_isClip y _ _ xL.rd_mk).mono (fun e w' h=>by rw[a1] at h;exact h))));go_big_quiet_on)))
    refine wpQuiet_nil ?_
    rintro w9 ⟨uu,rfl⟩
    have hb9:=yH W uu
    generalize bel W uu=w9 at *
    have HC:=hide (yJ HWb.out HWb.out.size hb9);have HC2:=hide (yJ HB.out HB.out.size HC.out);have HC3:=hide (yJ HW.out HW.out.size HC.out)
    clear hb9 g0 g1
    go_wp2
    go_roundw
    case rel=>exact⟨k+1,by omega,by go_num,HS.out.step HG.out ⟨Q1.out,fun p h=>by have:=K0.out;omega⟩,HC3.out⟩
    case measure=>simp[intOf];omega
   ·have a1:=yZ q1
    have Q1:=hide q1;clear q1
    have hWb:Below wr.heap.size wr (wr.alloc (.cells #[.int .i64 y.zU,.int .i64 y.zH,.int .i64 y.zF,.int .i64 y.zX,.int .i64 y.zS] 39)):=(Below.refl _ _).alloc (Nat.le_refl _) _
    have hNb:=Bk.born wr 39 #[.int .i64 y.zU,.int .i64 y.zH,.int .i64 y.zF,.int .i64 y.zX,.int .i64 y.zS]
    go_wp2
    generalize wr.alloc (.cells #[.int .i64 y.zU,.int .i64 y.zH,.int .i64 y.zF,.int .i64 y.zX,.int .i64 y.zS] 39)=W at *
    have HWb:=hide hWb;have HNb:=hide hNb;have HKW:=hide (HK.out.below hWb HK.out.lt)
    have g0:=xE hNb;have g1:=xE HKW.out
    clear hWb hNb
    refine xD (by kernel_rfl) (by kernel_rfl) ?_
    repeat(first|go_big_quiet_skip|(go_big_quiet_want;go_big_quiet_op;first|go_big_quiet_on|(apply Exists.intro;refine⟨fun _=>?_,?_⟩;(· (go_at_call 162;exact Calls.yL ((c_isClip y _ _ xL.rd_mk).mono (fun e w' h=>by rw[a1] at h;exact h))));go_big_quiet_on)))
    refine wpQuiet_nil ?_
    rintro w9 ⟨uu,rfl⟩
    have hb9:=yH W uu
    generalize bel W uu=w9 at *
    have HC:=hide (yJ HWb.out HWb.out.size hb9);have HC2:=hide (yJ HB.out HB.out.size HC.out);have HC3:=hide (yJ HW.out HW.out.size HC.out)
    clear hb9 g0 g1
    go_wp2
    go_ret
    exact⟨yI (yZ fun h=>Q1.out (h.clips k y HG.out).1).symm,HC2.out⟩
  obtain⟨j,rfl⟩: ∃ j,k=j+1:=⟨k - 1,by omega⟩
  clear hk0
  have hlj:j<x.zR.length:=by omega
  have hgj:=gE hlj
  obtain⟨b2,off2,cs2,hA,hb2,hcs,hcell⟩:=HX0.out j x.zR[j] hgj
  obtain⟨rfl,rfl⟩:b1=b2∧off=off2:=by injection hA with hA;injection hA with e1 e2;exact⟨e1,e2⟩
  clear hA
  generalize x.zR[j]=z at *
  have HJ:=hide hgj;clear hgj
  obtain rfl:=xL.yO (show T.rds _ _ _ by simpa only[xL.t,T.rd] using hcs)
  have g0:=(HB.out.cell hb2).trans (hcell 0 (.int .i64 z.zU) rfl)
  have g1:=(HB.out.cell hb2).trans (hcell 1 (.int .i64 z.zH) rfl)
  have g2:=(HB.out.cell hb2).trans (hcell 2 (.int .i64 z.zF) rfl)
  have g3:=(HB.out.cell hb2).trans (hcell 3 (.int .i64 z.zX) rfl)
  have g4:=(HB.out.cell hb2).trans (hcell 4 (.int .i64 z.zS) rfl)
  rw[show off+(j * 5+0)=off+j * 5 by omega] at g0
  rw[show off+(j * 5+1)=off+j * 5+1 by omega] at g1
  rw[show off+(j * 5+2)=off+j * 5+2 by omega] at g2
  rw[show off+(j * 5+3)=off+j * 5+3 by omega] at g3
  rw[show off+(j * 5+4)=off+j * 5+4 by omega] at g4
  clear hcs hcell
  have G3:=hide g3;clear g0 g1 g2 g3 g4
  have n1:((j:Int)<(x.zR.length:Int)):=by omega
  have e1:IntKind.i64.wrap ((j:Int)+1 - 1)=(j:Int):=by rw[IntWalk.i64_in _ (by omega)];omega
  have e2:IntKind.i64.wrap (j:Int)=(j:Int):=IntWalk.i64_in _ (by omega)
  have n0:(0:Int)≤(j:Int):=by omega
  by_cases q1:ClipOk y
  rotate_left
  ·have a1:=yZ q1
   have Q1:=hide q1;clear q1
   have hWb:Below wr.heap.size wr (wr.alloc (.cells #[.int .i64 y.zU,.int .i64 y.zH,.int .i64 y.zF,.int .i64 y.zX,.int .i64 y.zS] 39)):=(Below.refl _ _).alloc (Nat.le_refl _) _
   have hNb:=Bk.born wr 39 #[.int .i64 y.zU,.int .i64 y.zH,.int .i64 y.zF,.int .i64 y.zX,.int .i64 y.zS]
   go_wp2
   generalize wr.alloc (.cells #[.int .i64 y.zU,.int .i64 y.zH,.int .i64 y.zF,.int .i64 y.zX,.int .i64 y.zS] 39)=W at *
   have HWb:=hide hWb;have HNb:=hide hNb;have HKW:=hide (HK.out.below hWb HK.out.lt)
   have g0:=xE hNb;have g1:=xE HKW.out
   have g2:=yG ((hWb.cell (World.block_lt_of_cell? wr _ G3.out)).trans G3.out)
   clear hWb hNb
   refine xD (by kernel_rfl) (by kernel_rfl) ?_
   repeat(first|go_big_quiet_skip|(go_big_quiet_want;go_big_quiet_op;first|go_big_quiet_on|(apply Exists.intro;refine⟨fun _=>?_,?_⟩;(· (go_at_call 162;exact Calls.yL ((c_isClip y _ _ xL.rd_mk).mono (fun e w' h=>by rw[a1] at h;exact h))));go_big_quiet_on)))
   refine wpQuiet_nil ?_
   rintro w9 ⟨uu,rfl⟩
   have hb9:=yH W uu
   generalize bel W uu=w9 at *
   have HC:=hide (yJ HWb.out HWb.out.size hb9);have HC2:=hide (yJ HB.out HB.out.size HC.out);have HC3:=hide (yJ HW.out HW.out.size HC.out)
   clear hb9 g0 g1 g2
   go_wp2
   go_ret
   exact⟨yI (yZ fun h=>Q1.out (h.clips (j+1) y HG.out).1).symm,HC2.out⟩
  have a1:=xA q1
  have Q1:=hide q1;clear q1
  by_cases q2:y.zX<z.zX
  ·have Q2:=hide q2
   have hWb:Below wr.heap.size wr (wr.alloc (.cells #[.int .i64 y.zU,.int .i64 y.zH,.int .i64 y.zF,.int .i64 y.zX,.int .i64 y.zS] 39)):=(Below.refl _ _).alloc (Nat.le_refl _) _
   have hNb:=Bk.born wr 39 #[.int .i64 y.zU,.int .i64 y.zH,.int .i64 y.zF,.int .i64 y.zX,.int .i64 y.zS]
   go_wp2
   generalize wr.alloc (.cells #[.int .i64 y.zU,.int .i64 y.zH,.int .i64 y.zF,.int .i64 y.zX,.int .i64 y.zS] 39)=W at *
   have HWb:=hide hWb;have HNb:=hide hNb;have HKW:=hide (HK.out.below hWb HK.out.lt)
   have g0:=xE hNb;have g1:=xE HKW.out
   have g2:=yG ((hWb.cell (World.block_lt_of_cell? wr _ G3.out)).trans G3.out)
   clear hWb hNb
   refine xD (by kernel_rfl) (by kernel_rfl) ?_
   repeat(first|go_big_quiet_skip|(go_big_quiet_want;go_big_quiet_op;first|go_big_quiet_on|(apply Exists.intro;refine⟨fun _=>?_,?_⟩;(· (go_at_call 162;exact Calls.yL ((c_isClip y _ _ xL.rd_mk).mono (fun e w' h=>by rw[a1] at h;exact h))));go_big_quiet_on)))
   refine wpQuiet_nil ?_
   rintro w9 ⟨uu,rfl⟩
   have hb9:=yH W uu
   generalize bel W uu=w9 at *
   have HC:=hide (yJ HWb.out HWb.out.size hb9);have HC2:=hide (yJ HB.out HB.out.size HC.out);have HC3:=hide (yJ HW.out HW.out.size HC.out)
   clear hb9 g0 g1 g2
   go_wp2
   go_ret
   exact⟨yI (yZ fun h=>by have:=(h.clips (j+1) y HG.out).2 z (by omega) HJ.out;have:=Q2.out;omega).symm,HC2.out⟩
  have hWb:Below wr.heap.size wr (wr.alloc (.cells #[.int .i64 y.zU,.int .i64 y.zH,.int .i64 y.zF,.int .i64 y.zX,.int .i64 y.zS] 39)):=(Below.refl _ _).alloc (Nat.le_refl _) _
  have hNb:=Bk.born wr 39 #[.int .i64 y.zU,.int .i64 y.zH,.int .i64 y.zF,.int .i64 y.zX,.int .i64 y.zS]
  go_wp2
  generalize wr.alloc (.cells #[.int .i64 y.zU,.int .i64 y.zH,.int .i64 y.zF,.int .i64 y.zX,.int .i64 y.zS] 39)=W at *
  have HWb:=hide hWb;have HNb:=hide hNb;have HKW:=hide (HK.out.below hWb HK.out.lt)
  have g0:=xE hNb;have g1:=xE HKW.out
  have g2:=yG ((hWb.cell (World.block_lt_of_cell? wr _ G3.out)).trans G3.out)
  clear hWb hNb
  refine xD (by kernel_rfl) (by kernel_rfl) ?_
  repeat(first|go_big_quiet_skip|(go_big_quiet_want;go_big_quiet_op;first|go_big_quiet_on|(apply Exists.intro;refine⟨fun _=>?_,?_⟩;(· (go_at_call 162;exact Calls.yL ((c_isClip y _ _ xL.rd_mk).mono (fun e w' h=>by rw[a1] at h;exact h))));go_big_quiet_on)))
  refine wpQuiet_nil ?_
  rintro w9 ⟨uu,rfl⟩
  have hb9:=yH W uu
  generalize bel W uu=w9 at *
  have HC:=hide (yJ HWb.out HWb.out.size hb9);have HC2:=hide (yJ HB.out HB.out.size HC.out);have HC3:=hide (yJ HW.out HW.out.size HC.out)
  clear hb9 g0 g1 g2
  go_wp2
  go_roundw
  case rel=>exact⟨j+1+1,by omega,by go_num,HS.out.step HG.out ⟨Q1.out,fun p _ hp=>by rw[Nat.add_sub_cancel,HJ.out] at hp;injection hp with hp;subst hp;omega⟩,HC3.out⟩
  case measure=>simp[intOf];omega
end
end Go.Proofs.YtoibekfhepnedaaGreat
