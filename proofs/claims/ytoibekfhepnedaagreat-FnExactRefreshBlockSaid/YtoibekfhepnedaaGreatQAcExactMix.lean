/- Contracts: what is valid, by the program: lists, clips, names, sends. Contracts: check values, two bytes, the head of a store. Contracts: what is valid, by the program: names, sends, mixers, tracks. Contracts: what is valid, by the program: tracks, mixers. Laws for data that a call lays anew: blocks in order, elements stored one by one. No program is named here. -/
import Derived.Test.YtoibekfhepnedaaGreatQAbExactMix
import Derived.Deep.RegionHeld3
import Derived.Deep.RegionWith
import Derived.Maps.Own
import Derived.Test.YtoibekfhepnedaaGreatQAaExactMix
set_option linter.unusedVariables false
set_option linter.unusedSimpArgs false
set_option maxHeartbeats 2000000
set_option maxRecDepth 20000
namespace Go.Proofs.YtoibekfhepnedaaGreat
section
open Go.RowKit
theorem xK {n a b:Int} :inB n a b=true↔a≤n∧n≤b:=by simp[inB]
theorem inB_not {n a b:Int} (h:inB n a b=false) (k:a≤n∧n≤b):False:=by simp[inB] at h;omega
theorem wY (v:Value) (xs:List Int) (n:Int) (w:World) (hr:RdI w v xs) (h0:0≤n) (h1:n≤9223372036854775807):Calls Tryz.prog 105 #[v,.int .i64 n] w fun e w'=>e= .returned (.bool (tf (Idx xs n)))∧w=w':=by
 obtain⟨A,cap,rfl,hl,hc,hx⟩:=hr.open_;have HX:=xN hx;clear hx hr
 go_enter Tryz.func105,Tryz.ntmps105
 go_wp2
 go_loop [9] (fun i=> ∃ k:Nat,k≤xs.length∧i= .int .i64 k∧vP xs (fun _ x=>0≤x∧x≤n - 1) k) (fun i=>xs.length - (intOf i).toNat)
 case atStart=>exact⟨0,Nat.zero_le _,rfl,vP.zero⟩
 case round=>
  obtain⟨k,hk,rfl,hs⟩:=hrel;have HS:=xN hs;clear hs;by_cases hlt:k<xs.length
  ·have hgk:=gE hlt
   obtain⟨b,off,rfl,hb,hcell⟩:=HX.out k xs[k] hgk;generalize xs[k]=x at *;have HG:=xN hgk;clear hgk;by_cases hq:inB x 0 (n - 1)=true
   ·go_wp2_with (go_at_call 89;refine(wF _ _ _ _).mono ?_;rintro e w' ⟨rfl,rfl⟩)
    go_round
    case rel=>exact⟨k+1,by omega,by go_num,HS.out.step HG.out (xK.1 hq)⟩
    case measure=>simp[intOf];omega
   ·have hq':inB x 0 (n - 1)=false:=by simpa using hq
    clear hq;go_wp2_with (go_at_call 89;refine(wF _ _ _ _).mono ?_;rintro e w' ⟨rfl,rfl⟩)
    go_ret
    exact⟨yP (xH (fun hh=>inB_not hq' (hh k x HG.out))).symm,rfl⟩
  ·have hall:=xN (HS.out.all zM)
   go_wp2;go_ret
   exact⟨yP ((xI hall.out).symm),rfl⟩
theorem c_areSignals (v:Value) (xs:List (List Int)) (w:World) (hr:T.rd w (T.sl 26 1 (xs.map (T.ints 2))) [v]):Calls Tryz.prog 159 #[v] w fun e w'=>e= .returned (.bool (tf (Each xs fun _ l=>wFz l=true)))∧w=w':=by
 obtain⟨A,cap,rfl,hl,hc,hx⟩:=T.yU hr;have HX:=xN hx;clear hx hr
 go_enter Tryz.func159,Tryz.ntmps159
 go_wp2
 go_loop [7] (fun i=> ∃ k:Nat,k≤xs.length∧i= .int .i64 k∧vP xs (fun _ l=>wFz l=true) k) (fun i=>xs.length - (intOf i).toNat)
 case atStart=>exact⟨0,Nat.zero_le _,rfl,vP.zero⟩
 case round=>
  obtain⟨k,hk,rfl,hs⟩:=hrel;have HS:=xN hs;clear hs;by_cases hlt:k<xs.length
  ·have hgk:=gE hlt
   obtain⟨b,off,cs,rfl,hb,hcs,hcell⟩:=HX.out k xs[k] hgk;generalize xs[k]=l at *;have HG:=xN hgk;clear hgk;obtain⟨v3,rfl⟩:=T.rd_one hcs;have d0:=hcell 0 v3 rfl;rw[Nat.mul_one,Nat.add_zero] at d0;have R:=xN (T.xB.1 hcs);clear hcs hcell;obtain⟨A3,c3,rfl,l3,m3,x3⟩:=R.out.open_;clear x3;by_cases hq:wFz l=true
   ·go_wp2_with (go_at_call 219;refine(c_isSignal _ l _ R.out).mono ?_;rintro e w' ⟨rfl,rfl⟩)
    go_round
    case rel=>exact⟨k+1,by omega,by go_num,HS.out.step HG.out hq⟩
    case measure=>simp[intOf];omega
   ·have hq':wFz l=false:=by simpa using hq
    clear hq;go_wp2_with (go_at_call 219;refine(c_isSignal _ l _ R.out).mono ?_;rintro e w' ⟨rfl,rfl⟩)
    go_ret
    exact⟨yP (xH (fun hh=>by rw[hh k l HG.out] at hq';exact absurd hq' (by simp))).symm,rfl⟩
  ·have hall:=xN (HS.out.all zM);clear HS
   go_wp2;go_ret
   exact⟨yP (xI hall.out).symm,rfl⟩
theorem zEz (v:Value) (xs:List (List Int)) (w:World) (hr:T.rd w (T.sl 26 1 (xs.map (T.ints 2))) [v]):Calls Tryz.prog 103 #[v] w fun e w'=>e= .returned (.bool (tf (zTz xs)))∧w=w':=by
 have R:=xN hr;obtain⟨A,cap,rfl,hl,hc,hx⟩:=T.yU hr;clear hx hr;by_cases h6:xs.length≤6
 ·go_enter Tryz.func103,Tryz.ntmps103
  go_wp2_with (go_at_call 159;refine(c_areSignals _ xs _ R.out).mono ?_;rintro e w' ⟨rfl,rfl⟩)
  go_ret
  exact⟨yP (tf_iff ⟨fun h=>⟨h,h6⟩,fun h=>h.each⟩),rfl⟩
 ·go_enter Tryz.func103,Tryz.ntmps103
  go_wp2;go_ret
  exact⟨yP (xH fun h=>h6 h.few).symm,rfl⟩
theorem yWz (v:Value) (xs:List (List Int)) (w:World) (hr:T.rd w (T.sl 26 1 (xs.map (T.ints 2))) [v]):Calls Tryz.prog 261 #[v] w fun e w'=>e= .returned (.bool (tf (wMz xs)))∧w=w':=by
 obtain⟨A,cap,rfl,hl,hc,hx⟩:=T.yU hr;have HX:=xN hx;clear hx hr
 go_enter Tryz.func261,Tryz.ntmps261
 go_wp2
 go_loop [8] (fun i=> ∃ k:Nat,k≤xs.length∧i= .int .i64 k∧vP xs (fun _ t=>(t.length=2∨t.length=4∨t.length=8∨t.length=16)∧smpB t=true) k) (fun i=>xs.length - (intOf i).toNat)
 case atStart=>exact⟨0,Nat.zero_le _,rfl,vP.zero⟩
 case round=>
  obtain⟨k,hk,rfl,hs⟩:=hrel;have HS:=xN hs;clear hs;by_cases hlt:k<xs.length
  ·have hgk:=gE hlt
   obtain⟨b,off,cs,rfl,hb,hcs,hcell⟩:=HX.out k xs[k] hgk;generalize xs[k]=l at *;have HG:=xN hgk;clear hgk;obtain⟨v3,rfl⟩:=T.rd_one hcs;have d0:=hcell 0 v3 rfl;rw[Nat.mul_one,Nat.add_zero] at d0;have R:=xN (T.xB.1 hcs);clear hcs hcell;obtain⟨A3,c3,rfl,l3,m3,x3⟩:=R.out.open_;clear x3;by_cases hn:l.length=2∨l.length=4∨l.length=8∨l.length=16
   ·by_cases hq:smpB l=true
    ·rcases hn with hn|hn|hn|hn
     ·skip
      have n2:((l.length:Int) != 2)=false:=by simp;omega
      clear hn;have hn:l.length=2∨l.length=4∨l.length=8∨l.length=16:=by simp at n2;omega
      have HN:=xN hn;clear hn;go_wp2_with (go_at_call 131;refine(uG _ l _ R.out).mono ?_;rintro e w' ⟨rfl,rfl⟩)
      go_round
      case rel=>exact⟨k+1,by omega,by go_num,HS.out.step HG.out ⟨HN.out,hq⟩⟩
      case measure=>simp[intOf];omega
     ·skip
      have n2:((l.length:Int) != 2)=true:=by simp;omega
      have n4:((l.length:Int) != 4)=false:=by simp;omega
      clear hn;have hn:l.length=2∨l.length=4∨l.length=8∨l.length=16:=by simp at n4;omega
      have HN:=xN hn;clear hn;go_wp2_with (go_at_call 131;refine(uG _ l _ R.out).mono ?_;rintro e w' ⟨rfl,rfl⟩)
      go_round
      case rel=>exact⟨k+1,by omega,by go_num,HS.out.step HG.out ⟨HN.out,hq⟩⟩
      case measure=>simp[intOf];omega
     ·skip
      have n2:((l.length:Int) != 2)=true:=by simp;omega
      have n4:((l.length:Int) != 4)=true:=by simp;omega
      have n8:((l.length:Int) != 8)=false:=by simp;omega
      clear hn;have hn:l.length=2∨l.length=4∨l.length=8∨l.length=16:=by simp at n8;omega
      have HN:=xN hn;clear hn;go_wp2_with (go_at_call 131;refine(uG _ l _ R.out).mono ?_;rintro e w' ⟨rfl,rfl⟩)
      go_round
      case rel=>exact⟨k+1,by omega,by go_num,HS.out.step HG.out ⟨HN.out,hq⟩⟩
      case measure=>simp[intOf];omega
     ·skip
      have n2:((l.length:Int) != 2)=true:=by simp;omega
      have n4:((l.length:Int) != 4)=true:=by simp;omega
      have n8:((l.length:Int) != 8)=true:=by simp;omega
      have n16:((l.length:Int) != 16)=false:=by simp;omega
      clear hn;have hn:l.length=2∨l.length=4∨l.length=8∨l.length=16:=by simp at n16;omega
      have HN:=xN hn;clear hn;go_wp2_with (go_at_call 131;refine(uG _ l _ R.out).mono ?_;rintro e w' ⟨rfl,rfl⟩)
      go_round
      case rel=>exact⟨k+1,by omega,by go_num,HS.out.step HG.out ⟨HN.out,hq⟩⟩
      case measure=>simp[intOf];omega
    ·have hq':smpB l=false:=by simpa using hq
     clear hq
     rcases hn with hn|hn|hn|hn
     ·skip
      have n2:((l.length:Int) != 2)=false:=by simp;omega
      clear hn;go_wp2_with (go_at_call 131;refine(uG _ l _ R.out).mono ?_;rintro e w' ⟨rfl,rfl⟩)
      go_ret
      exact⟨yP (xH (fun hh=>by rw[(hh.each k l HG.out).2] at hq';exact absurd hq' (by simp))).symm,rfl⟩
     ·skip
      have n2:((l.length:Int) != 2)=true:=by simp;omega
      have n4:((l.length:Int) != 4)=false:=by simp;omega
      clear hn;go_wp2_with (go_at_call 131;refine(uG _ l _ R.out).mono ?_;rintro e w' ⟨rfl,rfl⟩)
      go_ret
      exact⟨yP (xH (fun hh=>by rw[(hh.each k l HG.out).2] at hq';exact absurd hq' (by simp))).symm,rfl⟩
     ·skip
      have n2:((l.length:Int) != 2)=true:=by simp;omega
      have n4:((l.length:Int) != 4)=true:=by simp;omega
      have n8:((l.length:Int) != 8)=false:=by simp;omega
      clear hn;go_wp2_with (go_at_call 131;refine(uG _ l _ R.out).mono ?_;rintro e w' ⟨rfl,rfl⟩)
      go_ret
      exact⟨yP (xH (fun hh=>by rw[(hh.each k l HG.out).2] at hq';exact absurd hq' (by simp))).symm,rfl⟩
     ·skip
      have n2:((l.length:Int) != 2)=true:=by simp;omega
      have n4:((l.length:Int) != 4)=true:=by simp;omega
      have n8:((l.length:Int) != 8)=true:=by simp;omega
      have n16:((l.length:Int) != 16)=false:=by simp;omega
      clear hn;go_wp2_with (go_at_call 131;refine(uG _ l _ R.out).mono ?_;rintro e w' ⟨rfl,rfl⟩)
      go_ret
      exact⟨yP (xH (fun hh=>by rw[(hh.each k l HG.out).2] at hq';exact absurd hq' (by simp))).symm,rfl⟩
   ·have n2:((l.length:Int) != 2)=true:=by simp;omega
    have n4:((l.length:Int) != 4)=true:=by simp;omega
    have n8:((l.length:Int) != 8)=true:=by simp;omega
    have n16:((l.length:Int) != 16)=true:=by simp;omega
    go_wp2;go_ret
    exact⟨yP (xH (fun hh=>hn (hh.each k l HG.out).1)).symm,rfl⟩
  ·have hall:=xN (HS.out.all zM);clear HS
   by_cases h4:xs.length≤4
   ·go_wp2
    go_ret
    exact⟨yP (by rw[xI ⟨hall.out,h4⟩];simp;omega),rfl⟩
   ·go_wp2
    go_ret
    exact⟨yP (by rw[xH fun h=>h4 h.few];simp;omega),rfl⟩
theorem uKz (x:xU) (cs:List Value) (w:World) (h:T.rds w x.fs cs):Calls Tryz.prog 162 #[.agg cs.toArray] w fun e w'=>e= .returned (.bool (tf (vPz x)))∧Below w.heap.size w w':=by
 obtain rfl:=xU.yV h;clear h;have HB0:=xN (show Below w.heap.size w (w.alloc (.cells #[.int .i64 x.yD,.int .i64 x.zK,.int .i64 x.zF,.int .i64 x.yH,.int .i64 x.yB] 39)) from zR.alloc zJ _);have HK0:=xN (Bk.born w 39 #[.int .i64 x.yD,.int .i64 x.zK,.int .i64 x.zF,.int .i64 x.yH,.int .i64 x.yB])
 go_enter Tryz.func162,Tryz.ntmps162
 by_cases h1:inB x.yD 0 5=true
 rotate_left
 ·have hq:inB x.yD 0 5=false:=by simpa using h1
  go_wp2_with (go_at_call 89;refine(wF _ _ _ _).mono ?_;rintro e w' ⟨rfl,rfl⟩)
  go_ret
  exact⟨yP (xH fun hh=>by exact h1 hh.source).symm,HB0.out⟩
 by_cases h2:inB x.zF 1 4000=true
 rotate_left
 ·have hq:inB x.zF 1 4000=false:=by simpa using h2
  go_wp2_with (go_at_call 89;refine(wF _ _ _ _).mono ?_;rintro e w' ⟨rfl,rfl⟩)
  go_ret
  exact⟨yP (xH fun hh=>by exact h2 hh.length).symm,HB0.out⟩
 have hb:=xK.1 h2;by_cases h3:inB x.zK 0 (4000 - x.zF)=true
 rotate_left
 ·have hq:inB x.zK 0 (4000 - x.zF)=false:=by simpa using h3
  go_wp2_with (go_at_call 89;refine(wF _ _ _ _).mono ?_;rintro e w' ⟨rfl,rfl⟩)
  go_ret
  exact⟨yP (xH fun hh=>by exact h3 hh.from_).symm,HB0.out⟩
 by_cases h4:inB x.yH 0 (4000 - x.zF)=true
 rotate_left
 ·have hq:inB x.yH 0 (4000 - x.zF)=false:=by simpa using h4
  go_wp2_with (go_at_call 89;refine(wF _ _ _ _).mono ?_;rintro e w' ⟨rfl,rfl⟩)
  go_ret
  exact⟨yP (xH fun hh=>by exact h4 hh.at_).symm,HB0.out⟩
 by_cases h5:Smp x.yB
 rotate_left
 ·have hq:decide (Smp x.yB)=false:=by simpa using h5
  go_wp2_with (first|(go_at_call 89;refine(wF _ _ _ _).mono ?_;rintro e w' ⟨rfl,rfl⟩)|(go_at_call 169;refine(ySz _ _).mono ?_;rintro e w' ⟨rfl,rfl⟩))
  go_ret
  exact⟨yP (xH fun hh=>by exact h5 hh.gain).symm,HB0.out⟩
 have hq:decide (Smp x.yB)=true:=by simpa using h5
 go_wp2_with (first|(go_at_call 89;refine(wF _ _ _ _).mono ?_;rintro e w' ⟨rfl,rfl⟩)|(go_at_call 169;refine(ySz _ _).mono ?_;rintro e w' ⟨rfl,rfl⟩))
 go_ret
 exact⟨yP (by rw[xI ⟨h1,h2,h3,h4,h5⟩]),HB0.out⟩
end
section
open Go.RowKit
end
section
open Go.RowKit Go.WideMaps Go.Maps
theorem uT (A:Option Addr) (n c:Nat) (w:World) (h:n≤9223372036854775807):Calls Tryz.prog 102 #[.slice A n c] w fun e w'=>e= .returned (.int .i64 (n:Int))∧w=w':=by
 go_enter Tryz.func102,Tryz.ntmps102
 go_wp2;go_ret
 exact⟨rfl,rfl⟩
theorem zMz (A:Option Addr) (n c:Nat) (w:World) (h:n≤9223372036854775807):Calls Tryz.prog 106 #[.slice A n c] w fun e w'=>e= .returned (.int .i64 (n:Int))∧w=w':=by
 go_enter Tryz.func106,Tryz.ntmps106
 go_wp2;go_ret
 exact⟨rfl,rfl⟩
theorem xXz (A:Option Addr) (n c:Nat) (w:World) (h:n≤9223372036854775807):Calls Tryz.prog 109 #[.slice A n c] w fun e w'=>e= .returned (.int .i64 (n:Int))∧w=w':=by
 go_enter Tryz.func109,Tryz.ntmps109
 go_wp2;go_ret
 exact⟨rfl,rfl⟩
theorem c_sizeSend (A:Option Addr) (n c:Nat) (w:World) (h:n≤9223372036854775807):Calls Tryz.prog 168 #[.slice A n c] w fun e w'=>e= .returned (.int .i64 (n:Int))∧w=w':=by
 go_enter Tryz.func168,Tryz.ntmps168
 go_wp2;go_ret
 exact⟨rfl,rfl⟩
theorem yUz (A:Option Addr) (n c:Nat) (w:World) (h:n≤9223372036854775807):Calls Tryz.prog 260 #[.slice A n c] w fun e w'=>e= .returned (.int .i64 (n:Int))∧w=w':=by
 go_enter Tryz.func260,Tryz.ntmps260
 go_wp2;go_ret
 exact⟨rfl,rfl⟩
theorem yNy (s:ByteArray) (w:World):Calls Tryz.prog 160 #[.string s] w fun e w'=>e= .returned (.bool (tf (NameOk s)))∧w=w':=by
 by_cases h1:1≤s.size
 rotate_left
 ·go_enter Tryz.func160,Tryz.ntmps160
  go_wp2;go_ret
  exact⟨yP (xH fun h=>h1 h.some_).symm,rfl⟩
 by_cases h2:s.size≤10
 rotate_left
 ·go_enter Tryz.func160,Tryz.ntmps160
  go_wp2;go_ret
  exact⟨yP (xH fun h=>h2 h.few).symm,rfl⟩
 go_enter Tryz.func160,Tryz.ntmps160
 go_wp2
 go_loop [3] (fun i=> ∃ k:Nat,k≤s.size∧i= .int .i64 k∧ ∀ i,i<k→vQz (bA s i)∨(vRz (bA s i)∧i≠0)) (fun i=>s.size - (intOf i).toNat)
 case atStart=>exact⟨0,Nat.zero_le _,rfl,fun i h=>absurd h zM⟩
 case round=>
  obtain⟨k,hk,rfl,hs⟩:=hrel;have HS:=xN hs;clear hs;by_cases hlt:k<s.size
  ·have hb:=bA_lt s k
   have hg:=bA_get hlt;have HX:Sec (∀ p:Prop,p→p):=⟨fun _ h=>h⟩;generalize hy:bA s k=y at *;have HY:=xN hy;clear hy;by_cases a1:97≤y
   ·by_cases a2:y≤122
    ·by_cases a3:48≤y
     ·by_cases a4:y≤57
      ·omega
      ·have n1:decide ((y:Int)≤122)=true:=decide_eq_true zM
       have n2:decide ((y:Int)≤57)=false:=decide_eq_false zM;go_wp2
       go_round
       case rel=>exact⟨k+1,by omega,by go_num,fun i hi=>by
        by_cases e:i=k
        ·subst e;rw[HY.out];exact .inl ⟨a1,a2⟩
        ·exact HS.out i zM⟩
       case measure=>simp[intOf];omega
     ·omega
    ·by_cases a4:y≤57
     ·omega
     ·have n1:decide ((y:Int)≤122)=false:=decide_eq_false zM
      have n2:decide ((y:Int)≤57)=false:=decide_eq_false zM;go_wp2;go_ret
      exact⟨yP (xH fun h=>by rcases h.each k hlt with h|h<;>rw[HY.out] at h<;>(simp only[vQz,vRz] at h;omega)).symm,rfl⟩
   ·by_cases a3:48≤y
    ·by_cases a4:y≤57
     ·have n2:decide ((y:Int)≤57)=true:=decide_eq_true zM
      by_cases a5:k=0
      ·subst a5
       go_wp2;go_ret
       exact⟨yP (xH fun h=>by rcases h.each 0 hlt with h|h<;>rw[HY.out] at h<;>(simp only[vQz,vRz] at h;omega)).symm,rfl⟩
      ·have a6:((k:Int) == 0)=false:=by simp;omega
       have A5:=xN a5;clear a5;go_wp2
       go_round
       case rel=>exact⟨k+1,by omega,by go_num,fun i hi=>by
        by_cases e:i=k
        ·subst e;rw[HY.out];exact .inr ⟨⟨a3,a4⟩,A5.out⟩
        ·exact HS.out i zM⟩
       case measure=>simp[intOf];omega
     ·have n2:decide ((y:Int)≤57)=false:=decide_eq_false zM
      go_wp2;go_ret
      exact⟨yP (xH fun h=>by rcases h.each k hlt with h|h<;>rw[HY.out] at h<;>(simp only[vQz,vRz] at h;omega)).symm,rfl⟩
    ·go_wp2
     go_ret
     exact⟨yP (xH fun h=>by rcases h.each k hlt with h|h<;>rw[HY.out] at h<;>(simp only[vQz,vRz] at h;omega)).symm,rfl⟩
  ·go_wp2
   go_ret
   exact⟨yP (xI ⟨h1,h2,fun i hi=>HS.out i zM⟩).symm,rfl⟩
theorem befS_succ {l:List xV} {p:Int} {k:Nat} {y:xV} (h:l[k]?=some y):befS l p (k+1)=y.yG:=by
 unfold befS;rw[if_neg zM,Nat.add_sub_cancel,List.getD_eq_getElem?_getD,h];rfl
theorem c_areSends (v:Value) (xs:List xV) (p n:Int) (w:World) (p0:0≤p) (p1:p≤1048576) (n0:0≤n) (n1:n≤1048576) (hr:T.rd w (T.sl 98 2 (xs.map xV.t)) [v]):Calls Tryz.prog 161 #[v,.int .i64 p,.int .i64 n] w fun e w'=>e= .returned (.bool (tf (SendsOk xs p n)))∧Below w.heap.size w w':=by
 obtain⟨A,cap,rfl,hl,hc,hx⟩:=T.yU hr;have HX:=xN hx;clear hx hr
 go_enter Tryz.func161,Tryz.ntmps161
 go_wp2
 go_loopw [7,13] (fun b i wr=> ∃ (k:Nat) (bf:Int),k≤xs.length∧i= .int .i64 k∧b= .int .i64 bf∧bf=befS xs p k∧0≤bf∧bf≤1048576∧vP xs (fun i x=>inB x.yG (befS xs p i+1) (n - 1)=true∧Smp x.yB) k∧Below w.heap.size w wr) (fun _ i _=>xs.length - (intOf i).toNat)
 case atStart=>exact⟨0,p,Nat.zero_le _,rfl,rfl,rfl,p0,p1,vP.zero,zR⟩
 case round=>
  obtain⟨k,bf,hk,rfl,rfl,hbf,b0,b1,hs,hbw⟩:=hrel;have HS:=xN hs;have HB:=xN hbw;have HBF:=xN hbf;clear hs hbw hbf;by_cases hlt:k<xs.length
  ·have hgk:=gE hlt
   obtain⟨b,off,cs,rfl,hb,hcs,hcell⟩:=HX.out k xs[k] hgk;generalize xs[k]=y at *;have HG:=xN hgk;clear hgk;obtain rfl:=xV.yV (show T.rds _ _ _ by simpa only[xV.t,T.rd] using hcs);have d0:=(HB.out.cell hb).trans (hcell 0 (.int .i64 y.yG) rfl);have d1:=(HB.out.cell hb).trans (hcell 1 (.int .i64 y.yB) rfl);rw[show off+(k * 2+0)=off+k * 2 by omega] at d0;rw[show off+(k * 2+1)=off+k * 2+1 by omega] at d1;clear hcs hcell;have hq:b<wr.heap.size:=zW hb HB.out.size;have hB:=HB.out;have hsz:=HB.out.size;by_cases q1:inB y.yG (bf+1) (n - 1)=true
   rotate_left
   ·have q1':inB y.yG (bf+1) (n - 1)=false:=by simpa using q1
    go_wp2_with (first|(go_at_call 89;refine(wF _ _ _ _).mono ?_;rintro e w' ⟨rfl,rfl⟩)|(go_at_call 169;refine(ySz _ _).mono ?_;rintro e w' ⟨rfl,rfl⟩))
    go_ret
    exact⟨yP (xH fun h=>by have:=(h.each k y HG.out).1;rw[←HBF.out] at this;exact q1 this).symm,ba⟩
   have i1:=xK.1 q1;by_cases q2:Smp y.yB
   rotate_left
   ·have q2':decide (Smp y.yB)=false:=decide_eq_false q2
    have Q2:=xN q2;clear q2;go_wp2_with (first|(go_at_call 89;refine(wF _ _ _ _).mono ?_;rintro e w' ⟨rfl,rfl⟩)|(go_at_call 169;refine(ySz _ _).mono ?_;rintro e w' ⟨rfl,rfl⟩))
    go_ret
    exact⟨yP (xH fun h=>Q2.out (h.each k y HG.out).2).symm,ba⟩
   have q2':decide (Smp y.yB)=true:=decide_eq_true q2;have Q2:=xN q2;have Q1:=xN q1;clear q2;go_wp2_with (first|(go_at_call 89;refine(wF _ _ _ _).mono ?_;rintro e w' ⟨rfl,rfl⟩)|(go_at_call 169;refine(ySz _ _).mono ?_;rintro e w' ⟨rfl,rfl⟩))
   go_roundw
   case rel=>exact⟨k+1,y.yG,by omega,by go_num,rfl,(befS_succ HG.out).symm,by omega,by omega,HS.out.step HG.out ⟨by rw[←HBF.out];exact Q1.out,Q2.out⟩,ba⟩
   case measure=>simp[intOf];omega
  ·have hall:=xN (HS.out.all zM);clear HS
   have hB:=HB.out;by_cases hp:p=n - 1
   ·by_cases hz:xs.length=0
    ·have z1:((xs.length:Int) == 0)=true:=xA zM
     have HZ:=xN hz;have HP:=xN hp;have z2:(p == n - 1)=true:=by simp[hp]
     clear hz hp;go_wp2;go_ret
     exact⟨yP (xI ⟨hall.out,fun _=>HZ.out,fun h=>absurd HP.out h⟩).symm,HB.out⟩
    ·have z1:((xs.length:Int) == 0)=false:=yZ zM
     have HZ:=xN hz;have HP:=xN hp;have z2:(p == n - 1)=true:=by simp[hp]
     clear hz hp;go_wp2;go_ret
     exact⟨yP (xH fun h=>HZ.out (h.last HP.out)).symm,HB.out⟩
   ·have z2:(p == n - 1)=false:=by simp[hp]
    have HP:=xN hp;clear hp;go_wp2_with (first|(go_at_call 89;refine(wF _ _ _ _).mono ?_;rintro e w' ⟨rfl,rfl⟩)|(go_at_call 168;refine(c_sizeSend _ _ _ _ zM).mono ?_;rintro e w' ⟨rfl,rfl⟩))
    go_ret
    exact⟨yP (by
     by_cases hz:1≤xs.length∧xs.length≤4
     ·rw[xI ⟨hall.out,fun h=>absurd h HP.out,fun _=>hz⟩];exact xK.2 zM
     ·rw[xH fun h=>hz (h.few HP.out)];exact zEy.2 zM),HB.out⟩
end
section
open Go.RowKit Go.WideMaps Go.Maps
theorem c_hasSrc1 (x:xU) (n:Int) (b:Nat) (w:World) (hb:b<w.heap.size) (hc:w.cell? ⟨b,0,none⟩=some (.int .i64 n)):Calls Tryz.prog 164 #[.agg #[.int .i64 x.yD,.int .i64 x.zK,.int .i64 x.zF,.int .i64 x.yH,.int .i64 x.yB],.pointer (some ⟨b,0,none⟩)] w fun e w'=>e= .returned (.bool (decide (n≤x.yD)))∧Below w.heap.size w w':=by
 have hB:Below w.heap.size w (w.alloc (.cells #[.int .i64 x.yD,.int .i64 x.zK,.int .i64 x.zF,.int .i64 x.yH,.int .i64 x.yB] 39)):=zR.alloc zJ _;have HB:=xN hB;clear hB
 go_enter Tryz.func164,Tryz.ntmps164
 go_wp2;go_ret
 exact⟨rfl,HB.out⟩
theorem c_idxSrc (v:Value) (xs:List xU) (n:Int) (b:Nat) (w:World) (hb:b<w.heap.size) (hcb:w.cell? ⟨b,0,none⟩=some (.int .i64 n)) (hr:T.rd w (T.sl 39 5 (xs.map xU.t)) [v]):Calls Tryz.prog 220 #[v,.func (.func 164) #[] #[.pointer (some ⟨b,0,none⟩)]] w fun e w'=> ∃ r:Int,e= .returned (.int .i64 r)∧(0≤r↔ ∃ x ∈ xs,n≤x.yD)∧Below w.heap.size w w':=by
 obtain⟨A,cap,rfl,hl,hc,hx⟩:=T.yU hr;have HX:=xN hx;clear hx hr;have BB:=xN (And.intro hb hcb);clear hb hcb
 go_enter Tryz.func220,Tryz.ntmps220
 go_wp2
 go_loopw [8] (fun i wr=> ∃ k:Nat,k≤xs.length∧i= .int .i64 k∧vP xs (fun _ x=>x.yD<n) k∧Below w.heap.size w wr) (fun i _=>xs.length - (intOf i).toNat)
 case atStart=>exact⟨0,Nat.zero_le _,rfl,vP.zero,zR⟩
 case round=>
  obtain⟨k,hk,rfl,hs,hbw⟩:=hrel;have HS:=xN hs;have HB:=xN hbw;clear hs hbw;by_cases hlt:k<xs.length
  ·have hgk:=gE hlt
   obtain⟨b1,off,cs,rfl,hb1,hcs,hcell⟩:=HX.out k xs[k] hgk;generalize xs[k]=x at *;have HG:=xN hgk;clear hgk;obtain rfl:=xU.yV (show T.rds _ _ _ by simpa only[xU.t,T.rd] using hcs);have d0:=(HB.out.cell hb1).trans (hcell 0 (.int .i64 x.yD) rfl);have d1:=(HB.out.cell hb1).trans (hcell 1 (.int .i64 x.zK) rfl);have d2:=(HB.out.cell hb1).trans (hcell 2 (.int .i64 x.zF) rfl);have d3:=(HB.out.cell hb1).trans (hcell 3 (.int .i64 x.yH) rfl);have d4:=(HB.out.cell hb1).trans (hcell 4 (.int .i64 x.yB) rfl);rw[show off+(k * 5+0)=off+k * 5 by omega] at d0;rw[show off+(k * 5+1)=off+k * 5+1 by omega] at d1;rw[show off+(k * 5+2)=off+k * 5+2 by omega] at d2;rw[show off+(k * 5+3)=off+k * 5+3 by omega] at d3;rw[show off+(k * 5+4)=off+k * 5+4 by omega] at d4;clear hcs hcell;by_cases hq:n≤x.yD
   ·have hd:decide (n≤x.yD)=true:=decide_eq_true hq
    have HQ:=xN hq;clear hq;go_wp2_with (go_at_call 164;refine(c_hasSrc1 x n b _ (zW BB.out.1 HB.out.size) ((HB.out.cell BB.out.1).trans BB.out.2)).mono ?_;rintro e w3 ⟨rfl,hb3⟩;rw[hd])
    have HB3:=xN (yQ HB.out HB.out.size hb3);clear hb3;go_wp2;go_ret
    exact⟨_,rfl,⟨fun _=>⟨x,List.mem_of_getElem? HG.out,HQ.out⟩,fun _=>by omega⟩,HB3.out⟩
   ·have hd:decide (n≤x.yD)=false:=decide_eq_false hq
    have HQ:=xN hq;clear hq;go_wp2_with (go_at_call 164;refine(c_hasSrc1 x n b _ (zW BB.out.1 HB.out.size) ((HB.out.cell BB.out.1).trans BB.out.2)).mono ?_;rintro e w3 ⟨rfl,hb3⟩;rw[hd])
    have HB3:=xN (yQ HB.out HB.out.size hb3);clear hb3;go_wp2
    go_roundw
    case rel=>exact⟨k+1,by omega,by go_num,HS.out.step HG.out (by have:=HQ.out;omega),HB3.out⟩
    case measure=>simp[intOf];omega
  ·have hall:=xN (HS.out.all zM);clear HS
   go_wp2;go_ret
   exact⟨-1,rfl,⟨fun h=>absurd h zM,fun⟨x,hx,hp⟩=>by
    obtain⟨i,hi,rfl⟩:=List.mem_iff_getElem.1 hx;have:=hall.out i _ (gE hi);omega⟩,HB.out⟩
theorem c_anySrc (v:Value) (xs:List xU) (n:Int) (b:Nat) (w:World) (hb:b<w.heap.size) (hcb:w.cell? ⟨b,0,none⟩=some (.int .i64 n)) (hr:T.rd w (T.sl 39 5 (xs.map xU.t)) [v]):Calls Tryz.prog 163 #[v,.func (.func 164) #[] #[.pointer (some ⟨b,0,none⟩)]] w fun e w'=>e= .returned (.bool (tf (∃ x ∈ xs,n≤x.yD)))∧Below w.heap.size w w':=by
 have HR:=xN hr;have BB:=xN (And.intro hb hcb);clear hb hcb;obtain⟨A,cap,rfl,hl,hc,hx⟩:=T.yU hr;clear hx hr
 go_enter Tryz.func163,Tryz.ntmps163
 go_wp2_with (go_at_call 220;refine(c_idxSrc _ xs n b _ BB.out.1 BB.out.2 HR.out).mono ?_;rintro e w3 ⟨r,rfl,hiff,hb3⟩;have HI:=xN hiff;have H3:=xN hb3;clear hiff hb3)
 go_ret
 exact⟨yP (by rw[←tf_dec];exact tf_iff HI.out),H3.out⟩
theorem vSz (x:xQ) (cs:List Value) (n:Int) (w:World) (h:T.rds w x.fs cs):Calls Tryz.prog 108 #[.agg cs.toArray,.int .i64 n] w fun e w'=>e= .returned (.bool (tf (∀ c ∈ x.zZ,c.yD<n)))∧Below w.heap.size w w':=by
 obtain⟨v0,rfl,h0⟩:=xQ.yV h;clear h;obtain⟨va0,vc0,rfl,vl0,vm0,R0,HX0⟩:=oG h0;clear h0;have HB0:=xN (show Below w.heap.size w (w.alloc (.cells #[(.slice va0 x.zZ.length vc0)] 96)) from zR.alloc zJ _);have HK0:=xN (Bk.born w 96 #[(.slice va0 x.zZ.length vc0)]);have hmf: ∀ (fn:Fn) (first cap:Array Value) (w:World),(Instr.makeFunc fn first cap).run Tryz.prog w= .ok (.func fn first cap) w:=fun _ _ _ _=>by simp[go_sem,Instr.makeFunc]
 have hb1:Below w.heap.size w ((w.alloc (.cells #[(.slice va0 x.zZ.length vc0)] 96)).alloc (.cells #[.int .i64 n] 2)):=HB0.out.alloc (by simp) _;have H1:=xN hb1;clear hb1;have hsz1:((w.alloc (.cells #[(.slice va0 x.zZ.length vc0)] 96)).alloc (.cells #[.int .i64 n] 2)).heap.size=w.heap.size+2:=by simp
 have Hsz:=xN hsz1;clear hsz1
 go_enter Tryz.func108,Tryz.ntmps108
 go_wp2_with (go_at_call 163;refine(c_anySrc _ x.zZ n (w.heap.size+1) _ (by rw[Hsz.out];omega) (by simp) (T.yM R0.out H1.out)).mono ?_;rintro e w3 ⟨rfl,hb3⟩;have H3:=xN (yQ H1.out (by rw[Hsz.out];omega) hb3);clear hb3)
 go_ret
 exact⟨yP (by
  by_cases hc: ∃ c ∈ x.zZ,n≤c.yD
  ·rw[xI hc,xH (fun h=>by obtain⟨c,hc1,hc2⟩:=hc;have:=h c hc1;omega)];rfl
  ·rw[xH hc,xI (fun c h=>Int.not_le.1 fun k=>hc ⟨c,h,k⟩)];rfl),H3.out⟩
theorem c_isTrack (x:xQ) (cs:List Value) (w:World) (h:T.rds w x.fs cs):Calls Tryz.prog 107 #[.agg cs.toArray] w fun e w'=>e= .returned (.bool (tf (zWz x)))∧Below w.heap.size w w':=by
 obtain⟨v0,rfl,h0⟩:=xQ.yV h;clear h;obtain⟨va0,vc0,rfl,vl0,vm0,R0,HX0⟩:=oG h0;clear h0;have HB0:=xN (show Below w.heap.size w (w.alloc (.cells #[(.slice va0 x.zZ.length vc0)] 96)) from zR.alloc zJ _);have HK0:=xN (Bk.born w 96 #[(.slice va0 x.zZ.length vc0)])
 go_enter Tryz.func107,Tryz.ntmps107
 go_wp2
 go_loopw [8] (fun i wr=> ∃ k:Nat,k≤x.zZ.length∧i= .int .i64 k∧vP x.zZ (fun i c=>vPz c∧ ∀ p,0<i→x.zZ[i - 1]?=some p→p.yH≤c.yH) k∧Below (w.alloc (.cells #[(.slice va0 x.zZ.length vc0)] 96)).heap.size (w.alloc (.cells #[(.slice va0 x.zZ.length vc0)] 96)) wr) (fun i _=>x.zZ.length - (intOf i).toNat)
 case atStart=>exact⟨0,Nat.zero_le _,rfl,vP.zero,zR⟩
 case round=>
  obtain⟨k,hk,rfl,hs,hbw⟩:=hrel;have HS:=xN hs;have HW:=xN hbw;have HB:=xN (yQ HB0.out HB0.out.size hbw);have HK:=xN (HK0.out.below hbw HK0.out.lt);clear hs hbw;have ka:=HK.out.cell;have la:=HK.out.lt;by_cases hlt:k<x.zZ.length
  rotate_left
  ·have hall:=xN (HS.out.all zM);clear HS
   by_cases h12:x.zZ.length≤12
   ·go_wp2
    go_ret
    exact⟨yP (by rw[xI ⟨hall.out,h12⟩];exact decide_eq_true zM),HB.out⟩
   ·go_wp2
    go_ret
    exact⟨yP (by rw[xH fun h=>h12 h.few];exact decide_eq_false zM),HB.out⟩
  have hgk:=gE hlt;obtain⟨b1,off,cs1,hA,hb1,hcs,hcell⟩:=HX0.out k x.zZ[k] hgk;subst hA;generalize x.zZ[k]=y at *;have HG:=xN hgk;clear hgk;obtain rfl:=xU.yV (show T.rds _ _ _ by simpa only[xU.t,T.rd] using hcs);have d0:=(HB.out.cell hb1).trans (hcell 0 (.int .i64 y.yD) rfl);have d1:=(HB.out.cell hb1).trans (hcell 1 (.int .i64 y.zK) rfl);have d2:=(HB.out.cell hb1).trans (hcell 2 (.int .i64 y.zF) rfl);have d3:=(HB.out.cell hb1).trans (hcell 3 (.int .i64 y.yH) rfl);have d4:=(HB.out.cell hb1).trans (hcell 4 (.int .i64 y.yB) rfl);rw[show off+(k * 5+0)=off+k * 5 by omega] at d0;rw[show off+(k * 5+1)=off+k * 5+1 by omega] at d1;rw[show off+(k * 5+2)=off+k * 5+2 by omega] at d2;rw[show off+(k * 5+3)=off+k * 5+3 by omega] at d3;rw[show off+(k * 5+4)=off+k * 5+4 by omega] at d4;clear hcs hcell;have hq1:b1<wr.heap.size:=zW hb1 HB.out.size;have hT0:= @xU.rd_mk;clear hT0;by_cases hk0:k=0
  ·have g0':decide (0<k)=false:=decide_eq_false zM
   have K0:=xN hk0;clear hk0;by_cases q1:vPz y
   ·have a1:=xI q1
    have Q1:=xN q1;clear q1;have hWb:Below wr.heap.size wr (wr.alloc (.cells #[.int .i64 y.yD,.int .i64 y.zK,.int .i64 y.zF,.int .i64 y.yH,.int .i64 y.yB] 39)):=zR.alloc zJ _;have hNb:=Bk.born wr 39 #[.int .i64 y.yD,.int .i64 y.zK,.int .i64 y.zF,.int .i64 y.yH,.int .i64 y.yB];go_wp2;generalize wr.alloc (.cells #[.int .i64 y.yD,.int .i64 y.zK,.int .i64 y.zF,.int .i64 y.yH,.int .i64 y.yB] 39)=W at *;have HWb:=xN hWb;have HNb:=xN hNb;have HKW:=xN (HK.out.below hWb HK.out.lt);have g0:=xM hNb;have g1:=xM HKW.out;clear hWb hNb;refine rB ?_
    repeat(first|go_big_quiet_skip|(go_big_quiet_want;go_big_quiet_op;first|go_big_quiet_on|(apply Exists.intro;refine⟨fun _=>?_,?_⟩;(· (go_at_call 162;exact Calls.yS ((uKz y _ _ xU.rd_mk).mono (fun e w' h=>by rw[a1] at h;exact h))));go_big_quiet_on)))
    refine wpQuiet_nil ?_;rintro w9 ⟨uu,rfl⟩;have hb9:=yO W uu;generalize bel W uu=w9 at *;have HC:=xN (yQ HWb.out HWb.out.size hb9);have HC2:=xN (yQ HB.out HB.out.size HC.out);have HC3:=xN (yQ HW.out HW.out.size HC.out);clear hb9 g0 g1;go_wp2
    go_roundw
    case rel=>exact⟨k+1,by omega,by go_num,HS.out.step HG.out ⟨Q1.out,fun p h=>by have:=K0.out;omega⟩,HC3.out⟩
    case measure=>simp[intOf];omega
   ·have a1:=xH q1
    have Q1:=xN q1;clear q1;have hWb:Below wr.heap.size wr (wr.alloc (.cells #[.int .i64 y.yD,.int .i64 y.zK,.int .i64 y.zF,.int .i64 y.yH,.int .i64 y.yB] 39)):=zR.alloc zJ _;have hNb:=Bk.born wr 39 #[.int .i64 y.yD,.int .i64 y.zK,.int .i64 y.zF,.int .i64 y.yH,.int .i64 y.yB];go_wp2;generalize wr.alloc (.cells #[.int .i64 y.yD,.int .i64 y.zK,.int .i64 y.zF,.int .i64 y.yH,.int .i64 y.yB] 39)=W at *;have HWb:=xN hWb;have HNb:=xN hNb;have HKW:=xN (HK.out.below hWb HK.out.lt);have g0:=xM hNb;have g1:=xM HKW.out;clear hWb hNb;refine rB ?_
    repeat(first|go_big_quiet_skip|(go_big_quiet_want;go_big_quiet_op;first|go_big_quiet_on|(apply Exists.intro;refine⟨fun _=>?_,?_⟩;(· (go_at_call 162;exact Calls.yS ((uKz y _ _ xU.rd_mk).mono (fun e w' h=>by rw[a1] at h;exact h))));go_big_quiet_on)))
    refine wpQuiet_nil ?_;rintro w9 ⟨uu,rfl⟩;have hb9:=yO W uu;generalize bel W uu=w9 at *;have HC:=xN (yQ HWb.out HWb.out.size hb9);have HC2:=xN (yQ HB.out HB.out.size HC.out);have HC3:=xN (yQ HW.out HW.out.size HC.out);clear hb9 g0 g1;go_wp2;go_ret
    exact⟨yP (xH fun h=>Q1.out (h.clips k y HG.out).1).symm,HC2.out⟩
  obtain⟨j,rfl⟩: ∃ j,k=j+1:=⟨k - 1,by omega⟩;clear hk0;have hlj:j<x.zZ.length:=by omega
  have hgj:=gE hlj;obtain⟨b2,off2,cs2,hA,hb2,hcs,hcell⟩:=HX0.out j x.zZ[j] hgj;obtain⟨rfl,rfl⟩:b1=b2∧off=off2:=by injection hA with hA;injection hA with e1 e2;exact⟨e1,e2⟩
  clear hA;generalize x.zZ[j]=z at *;have HJ:=xN hgj;clear hgj;obtain rfl:=xU.yV (show T.rds _ _ _ by simpa only[xU.t,T.rd] using hcs);have g0:=(HB.out.cell hb2).trans (hcell 0 (.int .i64 z.yD) rfl);have g1:=(HB.out.cell hb2).trans (hcell 1 (.int .i64 z.zK) rfl);have g2:=(HB.out.cell hb2).trans (hcell 2 (.int .i64 z.zF) rfl);have g3:=(HB.out.cell hb2).trans (hcell 3 (.int .i64 z.yH) rfl);have g4:=(HB.out.cell hb2).trans (hcell 4 (.int .i64 z.yB) rfl);rw[show off+(j * 5+0)=off+j * 5 by omega] at g0;rw[show off+(j * 5+1)=off+j * 5+1 by omega] at g1;rw[show off+(j * 5+2)=off+j * 5+2 by omega] at g2;rw[show off+(j * 5+3)=off+j * 5+3 by omega] at g3;rw[show off+(j * 5+4)=off+j * 5+4 by omega] at g4;clear hcs hcell;have G3:=xN g3;clear g0 g1 g2 g3 g4;have n1:((j:Int)<(x.zZ.length:Int)):=by omega
  have e1:IntKind.i64.wrap ((j:Int)+1 - 1)=(j:Int):=by rw[IntWalk.i64_in _ zM];omega
  have e2:IntKind.i64.wrap (j:Int)=(j:Int):=IntWalk.i64_in _ zM;have n0:(0:Int)≤(j:Int):=by omega
  by_cases q1:vPz y
  rotate_left
  ·have a1:=xH q1
   have Q1:=xN q1;clear q1;have hWb:Below wr.heap.size wr (wr.alloc (.cells #[.int .i64 y.yD,.int .i64 y.zK,.int .i64 y.zF,.int .i64 y.yH,.int .i64 y.yB] 39)):=zR.alloc zJ _;have hNb:=Bk.born wr 39 #[.int .i64 y.yD,.int .i64 y.zK,.int .i64 y.zF,.int .i64 y.yH,.int .i64 y.yB];go_wp2;generalize wr.alloc (.cells #[.int .i64 y.yD,.int .i64 y.zK,.int .i64 y.zF,.int .i64 y.yH,.int .i64 y.yB] 39)=W at *;have HWb:=xN hWb;have HNb:=xN hNb;have HKW:=xN (HK.out.below hWb HK.out.lt);have g0:=xM hNb;have g1:=xM HKW.out;have g2:=yN ((hWb.cell (World.block_lt_of_cell? wr _ G3.out)).trans G3.out);clear hWb hNb;refine rB ?_
   repeat(first|go_big_quiet_skip|(go_big_quiet_want;go_big_quiet_op;first|go_big_quiet_on|(apply Exists.intro;refine⟨fun _=>?_,?_⟩;(· (go_at_call 162;exact Calls.yS ((uKz y _ _ xU.rd_mk).mono (fun e w' h=>by rw[a1] at h;exact h))));go_big_quiet_on)))
   refine wpQuiet_nil ?_;rintro w9 ⟨uu,rfl⟩;have hb9:=yO W uu;generalize bel W uu=w9 at *;have HC:=xN (yQ HWb.out HWb.out.size hb9);have HC2:=xN (yQ HB.out HB.out.size HC.out);have HC3:=xN (yQ HW.out HW.out.size HC.out);clear hb9 g0 g1 g2;go_wp2;go_ret
   exact⟨yP (xH fun h=>Q1.out (h.clips (j+1) y HG.out).1).symm,HC2.out⟩
  have a1:=xI q1;have Q1:=xN q1;clear q1;by_cases q2:y.yH<z.yH
  ·have Q2:=xN q2
   have hWb:Below wr.heap.size wr (wr.alloc (.cells #[.int .i64 y.yD,.int .i64 y.zK,.int .i64 y.zF,.int .i64 y.yH,.int .i64 y.yB] 39)):=zR.alloc zJ _;have hNb:=Bk.born wr 39 #[.int .i64 y.yD,.int .i64 y.zK,.int .i64 y.zF,.int .i64 y.yH,.int .i64 y.yB];go_wp2;generalize wr.alloc (.cells #[.int .i64 y.yD,.int .i64 y.zK,.int .i64 y.zF,.int .i64 y.yH,.int .i64 y.yB] 39)=W at *;have HWb:=xN hWb;have HNb:=xN hNb;have HKW:=xN (HK.out.below hWb HK.out.lt);have g0:=xM hNb;have g1:=xM HKW.out;have g2:=yN ((hWb.cell (World.block_lt_of_cell? wr _ G3.out)).trans G3.out);clear hWb hNb;refine rB ?_
   repeat(first|go_big_quiet_skip|(go_big_quiet_want;go_big_quiet_op;first|go_big_quiet_on|(apply Exists.intro;refine⟨fun _=>?_,?_⟩;(· (go_at_call 162;exact Calls.yS ((uKz y _ _ xU.rd_mk).mono (fun e w' h=>by rw[a1] at h;exact h))));go_big_quiet_on)))
   refine wpQuiet_nil ?_;rintro w9 ⟨uu,rfl⟩;have hb9:=yO W uu;generalize bel W uu=w9 at *;have HC:=xN (yQ HWb.out HWb.out.size hb9);have HC2:=xN (yQ HB.out HB.out.size HC.out);have HC3:=xN (yQ HW.out HW.out.size HC.out);clear hb9 g0 g1 g2;go_wp2;go_ret
   exact⟨yP (xH fun h=>by have:=(h.clips (j+1) y HG.out).2 z zM HJ.out;have:=Q2.out;omega).symm,HC2.out⟩
  have hWb:Below wr.heap.size wr (wr.alloc (.cells #[.int .i64 y.yD,.int .i64 y.zK,.int .i64 y.zF,.int .i64 y.yH,.int .i64 y.yB] 39)):=zR.alloc zJ _;have hNb:=Bk.born wr 39 #[.int .i64 y.yD,.int .i64 y.zK,.int .i64 y.zF,.int .i64 y.yH,.int .i64 y.yB];go_wp2;generalize wr.alloc (.cells #[.int .i64 y.yD,.int .i64 y.zK,.int .i64 y.zF,.int .i64 y.yH,.int .i64 y.yB] 39)=W at *;have HWb:=xN hWb;have HNb:=xN hNb;have HKW:=xN (HK.out.below hWb HK.out.lt);have g0:=xM hNb;have g1:=xM HKW.out;have g2:=yN ((hWb.cell (World.block_lt_of_cell? wr _ G3.out)).trans G3.out);clear hWb hNb;refine rB ?_
  repeat(first|go_big_quiet_skip|(go_big_quiet_want;go_big_quiet_op;first|go_big_quiet_on|(apply Exists.intro;refine⟨fun _=>?_,?_⟩;(· (go_at_call 162;exact Calls.yS ((uKz y _ _ xU.rd_mk).mono (fun e w' h=>by rw[a1] at h;exact h))));go_big_quiet_on)))
  refine wpQuiet_nil ?_;rintro w9 ⟨uu,rfl⟩;have hb9:=yO W uu;generalize bel W uu=w9 at *;have HC:=xN (yQ HWb.out HWb.out.size hb9);have HC2:=xN (yQ HB.out HB.out.size HC.out);have HC3:=xN (yQ HW.out HW.out.size HC.out);clear hb9 g0 g1 g2;go_wp2
  go_roundw
  case rel=>exact⟨j+1+1,by omega,by go_num,HS.out.step HG.out ⟨Q1.out,fun p _ hp=>by rw[Nat.add_sub_cancel,HJ.out] at hp;injection hp with hp;subst hp;omega⟩,HC3.out⟩
  case measure=>simp[intOf];omega
end
section
open Go.RowKit
def Sg:Nat→Nat→List (List Nat)→Prop
 |lo,hi,[]=>lo≤hi
 |lo,hi,F :: r=> ∃ m,lo≤m∧F.Nodup∧(∀ b ∈ F,lo≤b∧b<m)∧Sg m hi r
theorem Sg.le: ∀ {lo hi:Nat} {xs:List (List Nat)},Sg lo hi xs→lo≤hi
 |_,_,[],h=>h
 |_,_,_ :: _,⟨_,h1,_,_,h2⟩=>Nat.le_trans h1 (Sg.le h2)
theorem Sg.app: ∀ {a b c:Nat} {xs ys:List (List Nat)},Sg a b xs→Sg b c ys→Sg a c (xs++ys)
 |a,b,c,[],[],h,k=>Nat.le_trans h k
 |a,b,c,[],F :: r,h,⟨m,h1,h2,h3,h4⟩=>⟨m,Nat.le_trans h h1,h2,fun x hx=>⟨Nat.le_trans h (h3 x hx).1,(h3 x hx).2⟩,h4⟩
 |a,b,c,F :: r,ys,⟨m,h1,h2,h3,h4⟩,k=>⟨m,h1,h2,h3,Sg.app h4 k⟩
theorem Sg.more: ∀ {a a' b:Nat} {xs:List (List Nat)},Sg a b xs→a'≤a→Sg a' b xs
 |_,_,_,[],h,k=>Nat.le_trans k h
 |_,_,_,_ :: _,⟨m,h1,h2,h3,h4⟩,k=>⟨m,Nat.le_trans k h1,h2,fun x hx=>⟨Nat.le_trans k (h3 x hx).1,(h3 x hx).2⟩,h4⟩
theorem Sg.all: ∀ {lo hi:Nat} {xs:List (List Nat)},Sg lo hi xs→xs.flatten.Nodup∧ ∀ b ∈ xs.flatten,lo≤b∧b<hi
 |_,_,[],_=>by simp
 |lo,hi,F :: r,⟨m,h1,h2,h3,h4⟩=>by
  obtain⟨k1,k2⟩:=Sg.all h4;have hm:=Sg.le h4;refine⟨?_,?_⟩
  ·rw[List.flatten_cons]
   exact nodup_lo h2 k1 (fun b hb=>(h3 b hb).2) (fun b hb=>(k2 b hb).1)
  ·intro b hb
   rw[List.flatten_cons] at hb
   rcases List.mem_append.1 hb with hb|hb
   ·have:=h3 b hb;exact⟨this.1,by omega⟩
   ·have:=k2 b hb;exact⟨by omega,this.2⟩
theorem Nv.sg {w w':World} {x:T} {F:List Nat} {v:Value} (h:Nv w w' x F v):Sg w.heap.size w'.heap.size [F]:=
 ⟨w'.heap.size,h.below.size,h.nodup,fun b hb=>⟨h.lo b hb,h.lt b hb⟩,zJ⟩
theorem nf {F:List Nat} {lo g:Nat} (h: ∀ b ∈ F,lo≤b) (hg:g<lo):g ∉ F:=fun hm=>by have:=h g hm;omega
theorem Bk.born1' (w:World) (o:Obj) (t:TypeId) (cs:Array Value):Bk ((w.alloc o).alloc (.cells cs t)) (w.heap.size+1) t cs:=by
 have:=Bk.born (w.alloc o) t cs
 simpa using this
theorem Bk.born2 (w:World) (o o2:Obj) (t:TypeId) (cs:Array Value):Bk (((w.alloc o).alloc o2).alloc (.cells cs t)) (w.heap.size+2) t cs:=by
 have:=Bk.born ((w.alloc o).alloc o2) t cs
 simpa using this
def setsW (w:World) (g:Nat):Nat→List Value→World
 |_,[]=>w
 |p,u :: us=>setsW (w.setCell ⟨g,p,none⟩ u) g (p+1) us
def setsL (es:List Value):Nat→List Value→List Value
 |_,[]=>es
 |p,u :: us=>setsL (es.set p u) (p+1) us
theorem grown_set1 (w:World) (g o:Nat) (u:Value):w.grownBy (w.setCell ⟨g,o,none⟩ u) (some g):=
 ⟨rfl,rfl,rfl,by simp[World.setCell],fun k _ hne=>Below.heap_setCell w _ u k (fun e=>hne (by rw[e]))⟩
theorem own_sets {B E sz n g cap:Nat} : ∀ (us:List Value) (w:World) (p:Nat) (es:List Value),w.ownsRow B E sz (.slice (some ⟨g,0,none⟩) n cap) n es→
  (setsW w g p us).ownsRow B E sz (.slice (some ⟨g,0,none⟩) n cap) n (setsL es p us)∧w.grownBy (setsW w g p us) (some g)
 | [],w,p,es,h=>⟨h,World.grownBy.refl _ _⟩
 |u :: us,w,p,es,h=>by
  obtain⟨h1,h2⟩:=own_sets us (w.setCell ⟨g,p,none⟩ u) (p+1) (es.set p u) (World.ownsRow.stored h p u).1;exact⟨h1,(grown_set1 w g p u).trans h2⟩
theorem setsL_mid: ∀ (us zs c1 c2:List Value),us.length=zs.length→setsL (c1++(zs++c2)) c1.length us=c1++(us++c2)
 | [],[],c1,c2,_=>rfl
 |u :: us,z :: zs,c1,c2,h=>by
  have e:(c1++((z :: zs)++c2)).set c1.length u=(c1++ [u])++(zs++c2):=by
   rw[List.set_append_right _ _ zJ,Nat.sub_self];simp
  have:=setsL_mid us zs (c1++ [u]) c2 (by simpa using h);simp only[setsL];rw[e];rw[List.length_append,List.length_singleton] at this;rw[this];simp
theorem vTz {α:Type} {l:List α} {n:Nat} (h:n≤l.length): ∃ a b,l=a++b∧a.length=n:=⟨l.take n,l.drop n,(List.take_append_drop n l).symm,by rw[List.length_take];omega⟩
theorem len1 {α:Type} {l:List α} (h:l.length=1): ∃ a,l= [a]:=by match l,h with| [a],_=>exact⟨a,rfl⟩
theorem len2 {α:Type} {l:List α} (h:l.length=2): ∃ a b,l= [a,b]:=by match l,h with| [a,b],_=>exact⟨a,b,rfl⟩
theorem len3 {α:Type} {l:List α} (h:l.length=3): ∃ a b c,l= [a,b,c]:=by match l,h with| [a,b,c],_=>exact⟨a,b,c,rfl⟩
theorem len4 {α:Type} {l:List α} (h:l.length=4): ∃ a b c d,l= [a,b,c,d]:=by match l,h with| [a,b,c,d],_=>exact⟨a,b,c,d,rfl⟩
theorem len5 {α:Type} {l:List α} (h:l.length=5): ∃ a b c d e,l= [a,b,c,d,e]:=by match l,h with| [a,b,c,d,e],_=>exact⟨a,b,c,d,e,rfl⟩
theorem uF {w:World} {B E sz n g cap:Nat} {c1 zs c2:List Value} (h:w.ownsRow B E sz (.slice (some ⟨g,0,none⟩) n cap) n (c1++(zs++c2))) {j:Nat} {u:Value} (hj:zs[j]?=some u):w.cell? ⟨g,c1.length+j,none⟩=some u:=by
 have hl:=(List.getElem?_eq_some_iff.1 hj).1;rw[World.ownsRow.cellAt h (c1.length+j) (by rw[←h.1];simp;omega)];rw[List.getElem?_append_right zM,Nat.add_sub_cancel_left,List.getElem?_append_left hl];exact hj
theorem xC {w:World} {B E sz n g cap:Nat} {es:List Value} (h:w.ownsRow B E sz (.slice (some ⟨g,0,none⟩) n cap) n es) (j:Nat):w.frozen? ⟨g,j,none⟩=false:=World.ownsRow.frozenAt h j
theorem T.ows_snoc {w:World} {xs:List T} {x:T} {F F':List Nat} {c1 c2:List Value} (h:T.ows w xs F c1) (k:T.ow w x F' c2):T.ows w (xs++ [x]) (F++F') (c1++c2):=
 (T.ows_app xs [x] _ _).2 ⟨F,F',c1,c2,rfl,rfl,h,by simp only[T.ows];exact⟨F',[],c2,[],by simp,by simp,k,rfl,rfl⟩⟩
theorem T.ows_grown {w w':World} {xs:List T} {F:List Nat} {cs:List Value} {g:Nat} (h:T.ows w xs F cs) (hg:w.grownBy w' (some g)) (hn:g ∉ F):T.ows w' xs F cs:=
 T.ows_keep xs F cs (fun b hb=>hg.block b (T.ows_lt xs F cs h b hb) (fun e=>hn (by injection e with e;rw[←e];exact hb))) h
theorem T.ow_grown {w w':World} {x:T} {F:List Nat} {cs:List Value} {g:Nat} (h:T.ow w x F cs) (hg:w.grownBy w' (some g)) (hn:g ∉ F):T.ow w' x F cs:=
 T.ow_keep x F cs (fun b hb=>hg.block b (T.ow_lt x F cs h b hb) (fun e=>hn (by injection e with e;rw[←e];exact hb))) h
structure Fil (w0 wr:World) (E sz n:Nat) (xs:List T) (G:List Nat) (c1 c2:List Value):Prop where
 own:wr.ownsRow 0 E sz (.slice (some ⟨w0.heap.size,0,none⟩) n n) n (c1++c2)
 ows:T.ows wr xs G c1
 nodup:G.Nodup
 lo: ∀ b ∈ G,w0.heap.size+1≤b
 below:Below w0.heap.size w0 wr
theorem Fil.len {w0 wr:World} {E sz n:Nat} {xs:List T} {G:List Nat} {c1 c2:List Value} (h:Fil w0 wr E sz n xs G c1 c2) (hw: ∀ x ∈ xs,T.wide x=sz):c1.length=xs.length * sz:=by
 rw[T.ows_len h.ows,T.wides_mul xs hw]
theorem Fil.call {w0 wr w1:World} {E sz n:Nat} {xs:List T} {G:List Nat} {c1 c2:List Value} (h:Fil w0 wr E sz n xs G c1 c2) (hb:Below wr.heap.size wr w1):Fil w0 w1 E sz n xs G c1 c2:=
 ⟨wX h.own hb,T.ows_all h.ows hb,h.nodup,h.lo,yQ h.below h.below.size hb⟩
theorem Fil.step {w0 wr w1:World} {E sz n:Nat} {xs:List T} {G F:List Nat} {c1 zs c2 us:List Value} {x:T} (h:Fil w0 w1 E sz n xs G c1 (zs++c2)) (hl:us.length=zs.length)
  (hs:w0.heap.size+1≤wr.heap.size) (hx:T.ow w1 x F us) (hF:F.Nodup) (hF2: ∀ b ∈ F,wr.heap.size≤b) (hG: ∀ b ∈ G,b<wr.heap.size):
  Fil w0 (setsW w1 w0.heap.size c1.length us) E sz n (xs++ [x]) (G++F) (c1++us) c2:=by
 obtain⟨h1,h2⟩:=own_sets us w1 c1.length _ h.own;rw[setsL_mid us zs c1 c2 hl,←List.append_assoc] at h1;have hgG:w0.heap.size ∉ G:=nf h.lo zM;have hgF:w0.heap.size ∉ F:=nf hF2 zM;refine⟨h1,T.ows_snoc (T.ows_grown h.ows h2 hgG) (T.ow_grown hx h2 hgF),nodup_lo h.nodup hF hG hF2,?_,h.below.grown h2 h.below.size (fun k hk=>by injection hk with hk;omega)⟩;intro b hb
 rcases List.mem_append.1 hb with hb|hb
 ·exact h.lo b hb
 ·have:=hF2 b hb;omega
theorem Fil.done {w0 wr:World} {E sz n:Nat} {xs:List T} {G:List Nat} {c1:List Value} (h:Fil w0 wr E sz n xs G c1 []) (hw: ∀ x ∈ xs,T.wide x=sz) (hn:xs.length=n):
  Nv w0 wr (.sl E sz xs) (w0.heap.size :: G) (.slice (some ⟨w0.heap.size,0,none⟩) n n):=by
 have ho:=h.own;rw[List.append_nil] at ho;refine⟨?_,?_,?_,h.below⟩
 ·simp only[T.ow]
  exact⟨_,c1,G,rfl,rfl,hw,by rw[hn];exact ho,h.ows⟩
 ·rw[List.nodup_cons];exact⟨nf h.lo zM,h.nodup⟩
 ·intro b hb
  rcases List.mem_cons.1 hb with rfl|hb
  ·exact zJ
  ·have:=h.lo b hb;omega
theorem Fil.lt {w0 wr:World} {E sz n:Nat} {xs:List T} {G:List Nat} {c1 c2:List Value} (h:Fil w0 wr E sz n xs G c1 c2): ∀ b ∈ G,b<wr.heap.size:=T.ows_lt _ _ _ h.ows
theorem Fil.up {w0 wr:World} {E sz n:Nat} {xs:List T} {G:List Nat} {c1 c2:List Value} (h:Fil w0 wr E sz n xs G c1 c2):w0.heap.size+1≤wr.heap.size:=by
 have:=(h.own.lt w0.heap.size rfl).2;omega
theorem Fil.born {w0 w1:World} {E sz n:Nat} {es:List Value} (h:w1.ownsRow w0.heap.size E sz (.slice (some ⟨w0.heap.size,0,none⟩) n n) n es) (hg:w0.grownBy w1 none):Fil w0 w1 E sz n [] [] [] es:=
 ⟨wU h (Nat.zero_le _),T.c_oe,by simp,by simp,zR.grown hg zJ (by simp)⟩
theorem Fil.rest {w0 wr:World} {E sz n:Nat} {xs:List T} {G:List Nat} {c1 c2:List Value} (h:Fil w0 wr E sz n xs G c1 c2) (hw: ∀ x ∈ xs,T.wide x=sz):c2.length=n * sz - xs.length * sz:=by
 have h1:=h.own.1;have h2:=h.len hw;rw[List.length_append] at h1
 omega
theorem T.xD {w:World} {E:TypeId} {sz:Nat} {xs:List T} {u:Value} (h:T.rd w (.sl E sz xs) [u]): ∃ A l c,u= .slice A l c:=by
 obtain⟨A,cap,rfl,_⟩:=T.yV h;exact⟨_,_,_,rfl⟩
theorem T.xE {w:World} {E:TypeId} {sz:Nat} {xs:List T} {F:List Nat} {u:Value} (h:T.ow w (.sl E sz xs) F [u]): ∃ A l c,u= .slice A l c:=T.xD (T.ow_rd _ _ _ h)
end
end Go.Proofs.YtoibekfhepnedaaGreat
