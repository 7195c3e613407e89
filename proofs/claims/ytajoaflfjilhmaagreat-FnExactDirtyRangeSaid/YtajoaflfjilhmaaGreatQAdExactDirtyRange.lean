/- Contracts of the smallest functions. Contracts: lists of samples, copies, differences. Contracts: equal lists, marks, copies, differences. Contracts: wrapped numbers, copies, differences. Contracts: differences of an order; PredictSignal of both sides. Contracts: what is valid, by the program: lists, clips, names, sends. Contracts: check values, two bytes, the head of a store. -/
import Derived.Test.YtajoaflfjilhmaaGreatQAaExactDirtyRange
import Derived.Test.YtajoaflfjilhmaaGreatRows
import Derived.Deep.RegionWith
import Derived.Test.YtajoaflfjilhmaaGreatQAcExactDirtyRange
import Derived.Deep.RegionHeld3
set_option linter.unusedVariables false
set_option linter.unusedSimpArgs false
section
namespace Go.Proofs.YtajoaflfjilhmaaGreat
open Go.RowKit
set_option maxHeartbeats 400000 in
theorem c_l00In (n a b : Int) (w : World) : Calls Tryz.prog 171 #[.int .i64 n, .int .i64 a, .int .i64 b] w fun e w' => e = .returned (.bool (inB n a b)) ∧ w = w' := by
  by_cases h : a ≤ n
  all_goals
    go_enter Tryz.func171, Tryz.ntmps171
    go_wp2
    go_ret
    exact ⟨by first | (simp [inB, h]; done) | (simp [inB]; omega), rfl⟩
set_option maxHeartbeats 400000 in
theorem c_within (n a b : Int) (w : World) : Calls Tryz.prog 100 #[.int .i64 n, .int .i64 a, .int .i64 b] w fun e w' => e = .returned (.bool (inB n a b)) ∧ w = w' := by
  by_cases h : a ≤ n
  all_goals
    go_enter Tryz.func100, Tryz.ntmps100
    go_wp2
    go_ret
    exact ⟨by first | (simp [inB, h]; done) | (simp [inB]; omega), rfl⟩
theorem c_l01Sample (n : Int) (w : World) : Calls Tryz.prog 177 #[.int .i64 n] w fun e w' => e = .returned (.bool (decide (Smp n))) ∧ w = w' := by
  go_enter Tryz.func177, Tryz.ntmps177
  go_wp2_with (go_at_call 171; refine (c_l00In _ _ _ _).mono ?_; rintro e w' ⟨rfl, rfl⟩)
  go_ret
  exact ⟨rfl, rfl⟩
theorem c_isSample (n : Int) (w : World) : Calls Tryz.prog 188 #[.int .i64 n] w fun e w' => e = .returned (.bool (decide (Smp n))) ∧ w = w' := by
  go_enter Tryz.func188, Tryz.ntmps188
  go_wp2_with (go_at_call 100; refine (c_within _ _ _ _).mono ?_; rintro e w' ⟨rfl, rfl⟩)
  go_ret
  exact ⟨rfl, rfl⟩
set_option maxHeartbeats 400000 in
theorem c_l03Ok (v : Value) (xs : List Int) (w : World) (hr : RdI w v xs) : Calls Tryz.prog 138 #[v] w fun e w' => e = .returned (.bool (sigB xs)) ∧ w = w' := by
  obtain ⟨A, cap, rfl, hl, hc, hx⟩ := hr.open_
  have HX := hide hx; clear hx hr
  by_cases h4 : xs.length ≤ 4000
  · go_enter Tryz.func138, Tryz.ntmps138
    go_wp2
    go_loop [3] (fun i => ∃ k : Nat, k ≤ xs.length ∧ i = .int .i64 k ∧ smpB (xs.take k) = true) (fun i => xs.length - (intOf i).toNat)
    case atStart => exact ⟨0, Nat.zero_le _, rfl, by simp [smpB]⟩
    case round =>
      obtain ⟨k, hk, rfl, hs⟩ := hrel
      have HS := hide hs; clear hs
      by_cases hlt : k < xs.length
      · obtain ⟨b, off, rfl, hb, hcell⟩ := HX.out k xs[k] (List.getElem?_eq_getElem hlt)
        by_cases hsm : Smp xs[k]
        · have hd : decide (Smp xs[k]) = true := by simpa using hsm
          go_wp2_with (go_at_call 177; refine (c_l01Sample _ _).mono ?_; rintro e w' ⟨rfl, rfl⟩)
          go_round
          case rel => exact ⟨k + 1, by omega, by go_num, smpB_take_succ (List.getElem?_eq_getElem hlt) HS.out hsm⟩
          case measure => simp [intOf]; omega
        · have hd : decide (Smp xs[k]) = false := by simpa using hsm
          go_wp2_with (go_at_call 177; refine (c_l01Sample _ _).mono ?_; rintro e w' ⟨rfl, rfl⟩)
          go_ret
          exact ⟨by simp [sigB, smpB_no (List.getElem?_eq_getElem hlt) hsm], rfl⟩
      · go_wp2
        go_ret
        have : k = xs.length := by omega
        subst this
        have := HS.out
        rw [List.take_length] at this
        exact ⟨by simp [sigB, h4, this], rfl⟩
  · go_enter Tryz.func138, Tryz.ntmps138
    go_wp2
    go_ret
    exact ⟨by simp [sigB]; omega, rfl⟩
end Go.Proofs.YtajoaflfjilhmaaGreat
end
section
namespace Go.Proofs.YtajoaflfjilhmaaGreat
open Go.RowKit
theorem info_i64 : (Tryz.prog.info? 2).map (fun i => (i.zero, i.size, i.bytes)) = some (some (.int .i64 0), 1, 8) := by kernel_rfl
theorem app1_i64 {w : World} {ops : Array Oper} {rest : List Oper} {o : Oper} {a : Act} {Q : Exit → Act → World → Prop} {n : Int} (hgd : o.guard = none) (s x : Operand)
    (ho : o.op = .call { callee := .builtin .append, args := #[s, x], argTypes := #[26, 26] }) {B : Nat} {v : Value} {xs : List Int} (hs : a.eval s = v) (hown : OwI 2 w B v xs)
    (hx : a.eval x = .slice (some ⟨w.heap.size, 0, none⟩) 1 1) (hl : xs.length + 1 ≤ 17592186044416) (hB : B ≤ w.heap.size)
    (h : ∀ v' w', OwI 2 w' B v' (xs ++ [n]) → w.grownBy w' v.ownBlock → (∀ k, v'.ownBlock = some k → v.ownBlock = some k ∨ w.heap.size ≤ k) → wpList Tryz.prog ops Q rest (a.put o.dst v') w') :
    wpList Tryz.prog ops Q (o :: rest) a (w.alloc (.cells #[.int .i64 n] 2)) :=
  app_one hgd s x _ ho B _ _ 1 8 Tryz.underlying26 info_i64 rfl (by omega) v xs.length _ hs hown hx rfl (by simp [Value.oneCell']) (by omega) (by omega) hB
    fun v' w' h1 h2 h3 => h v' w' (by unfold OwI; simpa using h1) h2 h3
theorem appm_i64 {w : World} {ops : Array Oper} {rest : List Oper} {o : Oper} {a : Act} {Q : Exit → Act → World → Prop} (hgd : o.guard = none) (s x : Operand)
    (ho : o.op = .call { callee := .builtin .append, args := #[s, x], argTypes := #[26, 26] }) {B : Nat} {v : Value} {xs : List Int} (hs : a.eval s = v) (hown : OwI 2 w B v xs)
    {y : Value} {ys : List Int} (hx : a.eval x = y) (hr : RdI w y ys) (hl : xs.length + ys.length ≤ 17592186044416) (hB : B ≤ w.heap.size)
    (h : ∀ v' w', OwI 2 w' B v' (xs ++ ys) → w.grownBy w' v.ownBlock → (∀ k, v'.ownBlock = some k → v.ownBlock = some k ∨ w.heap.size ≤ k) → wpList Tryz.prog ops Q rest (a.put o.dst v') w') :
    wpList Tryz.prog ops Q (o :: rest) a w :=
  app_many hgd s x _ ho B _ _ 1 8 Tryz.underlying26 info_i64 rfl (by omega) v xs.length _ hs hown y ys.length _ hx hr (ints_oneCell _ _) (by omega) (by omega) hB
    fun v' w' h1 h2 h3 => h v' w' (by unfold OwI; simpa using h1) h2 h3
theorem new_i64 (w : World) : OwI 2 (w.alloc (.cells #[] 2)) w.heap.size (.slice (some ⟨w.heap.size, 0, none⟩) 0 0) [] := World.ownsRow_made w #[] 0 (Nat.le_refl _) (by decide) rfl
set_option maxHeartbeats 400000 in
theorem c_areSamples (v : Value) (xs : List Int) (w : World) (hr : RdI w v xs) : Calls Tryz.prog 155 #[v] w fun e w' => e = .returned (.bool (smpB xs)) ∧ w = w' := by
  obtain ⟨A, cap, rfl, hl, hc, hx⟩ := hr.open_
  have HX := hide hx; clear hx hr
  go_enter Tryz.func155, Tryz.ntmps155
  go_wp2
  go_loop [7] (fun i => ∃ k : Nat, k ≤ xs.length ∧ i = .int .i64 k ∧ smpB (xs.take k) = true) (fun i => xs.length - (intOf i).toNat)
  case atStart => exact ⟨0, Nat.zero_le _, rfl, by simp [smpB]⟩
  case round =>
    obtain ⟨k, hk, rfl, hs⟩ := hrel
    have HS := hide hs; clear hs
    by_cases hlt : k < xs.length
    · obtain ⟨b, off, rfl, hb, hcell⟩ := HX.out k xs[k] (List.getElem?_eq_getElem hlt)
      by_cases hsm : Smp xs[k]
      · have hd : decide (Smp xs[k]) = true := by simpa using hsm
        go_wp2_with (go_at_call 188; refine (c_isSample _ _).mono ?_; rintro e w' ⟨rfl, rfl⟩)
        go_round
        case rel => exact ⟨k + 1, by omega, by go_num, smpB_take_succ (List.getElem?_eq_getElem hlt) HS.out hsm⟩
        case measure => simp [intOf]; omega
      · have hd : decide (Smp xs[k]) = false := by simpa using hsm
        go_wp2_with (go_at_call 188; refine (c_isSample _ _).mono ?_; rintro e w' ⟨rfl, rfl⟩)
        go_ret
        exact ⟨by simp [smpB_no (List.getElem?_eq_getElem hlt) hsm], rfl⟩
    · go_wp2
      go_ret
      have : k = xs.length := by omega
      subst this
      have := HS.out
      rw [List.take_length] at this
      exact ⟨by simp [this], rfl⟩
set_option maxHeartbeats 400000 in
theorem c_isSignal (v : Value) (xs : List Int) (w : World) (hr : RdI w v xs) : Calls Tryz.prog 146 #[v] w fun e w' => e = .returned (.bool (sigB xs)) ∧ w = w' := by
  obtain ⟨A, cap, rfl, hl, hc, hx⟩ := hr.open_
  have HX := hide hx; clear hx
  have HR := hide hr; clear hr
  by_cases h4 : xs.length ≤ 4000
  all_goals
    go_enter Tryz.func146, Tryz.ntmps146
    go_wp2_with (go_at_call 155; refine (c_areSamples _ _ _ HR.out).mono ?_; rintro e w' ⟨rfl, rfl⟩)
    go_ret
    first | exact ⟨by simp [sigB, h4], rfl⟩ | exact ⟨by simp [sigB]; omega, rfl⟩
set_option maxHeartbeats 400000 in
theorem c_toInt64S (v : Value) (xs : List Int) (w : World) (hr : RdI w v xs) (hn : xs.length ≤ 1048576) : Calls Tryz.prog 56 #[v] w fun e w' => ∃ v', e = .returned v' ∧ OwI 2 w' w.heap.size v' xs ∧ Below w.heap.size w w' := by
  obtain ⟨A, cap, rfl, hl, hc, hx⟩ := hr.open_
  have HX := hide hx; clear hx
  have HR := hide hr; clear hr
  obtain ⟨i0, hi, hz0, hz1, hz2⟩ := info_parts info_i64
  go_enter Tryz.func56, Tryz.ntmps56
  go_wp2_with (at_make; refine wpList_make_full _ rfl _ _ _ rfl w.heap.size 2 i0 _ 1 Tryz.underlying26 hi hz0 hz1 .i64 .i64 _ _ xs.length rfl rfl rfl rfl (by rw [hz2]; omega) (by unfold maxLen; omega) (Nat.le_refl _) ?_; intro w1 hown1 hg1)
  have ho1 : OwI 2 w1 w.heap.size _ _ := OwI.made _ w1 (n := xs.length) hg1.size (by unfold maxLen; omega) 0 hown1
  have hb1 : Below w.heap.size w w1 := (Below.refl _ _).grown hg1 (Nat.le_refl _) (by simp)
  clear hown1 hg1
  have HO := hide ho1; have HB := hide hb1; clear ho1 hb1
  go_loopw [4] (fun i wr => ∃ k : Nat, k ≤ xs.length ∧ i = .int .i64 k ∧ OwI 2 wr w.heap.size (.slice (some ⟨w.heap.size, 0, none⟩) xs.length xs.length) (xs.take k ++ (List.replicate xs.length 0).drop k) ∧ Below w.heap.size w wr) (fun i _ => xs.length - (intOf i).toNat)
  case atStart => exact ⟨0, Nat.zero_le _, rfl, by simpa using HO.out, HB.out⟩
  case round =>
    obtain ⟨k, hk, rfl, ho, hb⟩ := hrel
    have HO := hide ho; have HB := hide hb; clear ho hb
    by_cases hlt : k < xs.length
    · obtain ⟨b, off, rfl, hbw, hcell⟩ := HX.out k xs[k] (List.getElem?_eq_getElem hlt)
      have h1 : wr.cell? ⟨b, off + k, none⟩ = some (.int .i64 xs[k]) := (HB.out.cell hbw).trans hcell
      have h2 : wr.cell? ⟨w.heap.size, k, none⟩ = some (.int .i64 0) := HO.out.cellN (by rw [getElem?_mix (by simp) (by simpa using hlt)]; simp [hlt])
      have h3 := HO.out.freeN k
      go_wp2
      go_roundw
      case rel => exact ⟨k + 1, by omega, by go_num, by have := HO.out.setN k xs[k]; rw [set_mix (by simp) (List.getElem?_eq_getElem hlt)] at this; exact this, HB.out.setCell (Nat.le_refl _) _⟩
      case measure => simp [intOf]; omega
    · go_wp2
      go_ret
      have : k = xs.length := by omega
      subst this
      exact ⟨_, rfl, by have := HO.out; simpa using this, HB.out⟩
end Go.Proofs.YtajoaflfjilhmaaGreat
end
section
namespace Go.Proofs.YtajoaflfjilhmaaGreat
open Go.RowKit
set_option maxHeartbeats 400000 in
theorem c_eqInt64S (v1 v2 : Value) (xs ys : List Int) (w : World) (hr1 : RdI w v1 xs) (hr2 : RdI w v2 ys) : Calls Tryz.prog 63 #[v1, v2] w fun e w' => e = .returned (.bool (decide (xs = ys))) ∧ Dr w w' := by
  obtain ⟨A1, cap1, rfl, hl1, hc1, hx1⟩ := hr1.open_
  obtain ⟨A2, cap2, rfl, hl2, hc2, hx2⟩ := hr2.open_
  have HX1 := hide hx1; have HX2 := hide hx2; clear hx1 hx2 hr1 hr2
  by_cases hll : xs.length = ys.length
  · have hb : ((xs.length : Int) != (ys.length : Int)) = false := by simp [hll]
    have HL := hide hll; clear hll
    go_enter Tryz.func63, Tryz.ntmps63
    go_wp2
    go_loopw [5] (fun i wr => ∃ k : Nat, k ≤ xs.length ∧ i = .int .i64 k ∧ xs.take k = ys.take k ∧ Dr w wr) (fun i _ => xs.length - (intOf i).toNat)
    case atStart => exact ⟨0, Nat.zero_le _, rfl, rfl, Dr.refl _⟩
    case round =>
      obtain ⟨k, hk, rfl, hs, nr, rfl⟩ := hrel
      have HS := hide hs; clear hs
      by_cases hlt : k < xs.length
      · have hlt2 : k < ys.length := by have := HL.out; omega
        obtain ⟨b1, off1, rfl, hb1, hcell1⟩ := HX1.out k xs[k] (List.getElem?_eq_getElem hlt)
        obtain ⟨b2, off2, rfl, hb2, hcell2⟩ := HX2.out k ys[k] (List.getElem?_eq_getElem hlt2)
        by_cases he : xs[k] = ys[k]
        · have hd : (xs[k] != ys[k]) = false := by simp [he]
          have HE := hide he; clear he
          go_wp2
          go_quiet (fail)
          go_wp2
          go_roundw
          case rel => exact ⟨k + 1, by omega, by go_num, takes_succ HS.out (List.getElem?_eq_getElem hlt) (by rw [HE.out]; exact List.getElem?_eq_getElem hlt2), (by repeat (first | exact Dr.refl _ | exact ⟨_, rfl⟩ | refine Dr.drewN ?_ _ | refine Dr.drew ?_))⟩
          case measure => simp [intOf]; omega
        · have hd : (xs[k] != ys[k]) = true := by simp [he]
          have HE := hide he; clear he
          go_wp2
          go_quiet (fail)
          go_wp2
          go_ret
          exact ⟨by simp [ne_at (List.getElem?_eq_getElem hlt) (List.getElem?_eq_getElem hlt2) HE.out], (by repeat (first | exact Dr.refl _ | exact ⟨_, rfl⟩ | refine Dr.drewN ?_ _ | refine Dr.drew ?_))⟩
      · go_wp2
        go_ret
        exact ⟨by simp [eq_of_takes (k := k) (by omega) HL.out HS.out], (by repeat (first | exact Dr.refl _ | exact ⟨_, rfl⟩ | refine Dr.drewN ?_ _ | refine Dr.drew ?_))⟩
  · have hb : ((xs.length : Int) != (ys.length : Int)) = true := by simp; omega
    have hne : xs ≠ ys := fun e => hll (by rw [e])
    have HN := hide hne; clear hll hne
    go_enter Tryz.func63, Tryz.ntmps63
    go_wp2
    go_ret
    exact ⟨by simp [HN.out], Dr.refl _⟩
theorem c_eqI (v1 v2 : Value) (xs : List Int) (w : World) (hr1 : RdI w v1 xs) (hr2 : RdI w v2 xs) : Calls Tryz.prog 63 #[v1, v2] w fun e w' => e = .returned (.bool true) ∧ Dr w w' :=
  (c_eqInt64S v1 v2 xs xs w hr1 hr2).mono fun e w' ⟨h1, h2⟩ => ⟨by rw [h1]; simp, h2⟩
end Go.Proofs.YtajoaflfjilhmaaGreat
end
section
namespace Go.Proofs.YtajoaflfjilhmaaGreat
open Go.RowKit
set_option maxHeartbeats 400000 in
theorem c_l00Own (v : Value) (xs : List Int) (w : World) (hr : RdI w v xs) (hn : xs.length ≤ 1048576) : Calls Tryz.prog 91 #[v] w fun e w' => ∃ v', e = .returned v' ∧ OwI 2 w' w.heap.size v' xs ∧ Below w.heap.size w w' := by
  have HR := hide hr; clear hr
  go_enter Tryz.func91, Tryz.ntmps91
  go_wp2_with (at_builtin; refine appm_i64 rfl _ _ rfl rfl (new_i64 w) rfl (Rd.alloc HR.out _) (by simp; omega) (by simp) ?_; intro v1 w1 ho hg hv)
  go_ret
  exact ⟨_, rfl, by simpa using ho, below_own ((Below.refl _ _).alloc (Nat.le_refl _) _) (new_i64 w) hg (Nat.le_refl _) (by simp)⟩
set_option maxHeartbeats 400000 in
theorem c_clone (v : Value) (xs : List Int) (w : World) (hr : RdI w v xs) (hn : xs.length ≤ 1048576) : Calls Tryz.prog 80 #[v] w fun e w' => ∃ v', e = .returned v' ∧ OwI 2 w' w.heap.size v' xs ∧ Below w.heap.size w w' := by
  have HR := hide hr; clear hr
  go_enter Tryz.func80, Tryz.ntmps80
  go_wp2_with (at_builtin; refine appm_i64 rfl _ _ rfl rfl (new_i64 w) rfl (Rd.alloc HR.out _) (by simp; omega) (by simp) ?_; intro v1 w1 ho hg hv)
  go_ret
  exact ⟨_, rfl, by simpa using ho, below_own ((Below.refl _ _).alloc (Nat.le_refl _) _) (new_i64 w) hg (Nat.le_refl _) (by simp)⟩
end Go.Proofs.YtajoaflfjilhmaaGreat
end
section
namespace Go.Proofs.YtajoaflfjilhmaaGreat
open Go.RowKit
set_option maxHeartbeats 400000 in
theorem c_size (v : Value) (xs : List Int) (w : World) (hr : RdI w v xs) : Calls Tryz.prog 154 #[v] w fun e w' => e = .returned (.int .i64 (xs.length : Int)) ∧ w = w' := by
  obtain ⟨A, cap, rfl, hl, hc, hx⟩ := hr.open_
  clear hx hr
  go_enter Tryz.func154, Tryz.ntmps154
  go_wp2
  go_ret
  exact ⟨rfl, rfl⟩
end Go.Proofs.YtajoaflfjilhmaaGreat
end
section
namespace Go.Proofs.YtajoaflfjilhmaaGreat
open Go.RowKit
theorem inB_iff {n a b : Int} : inB n a b = true ↔ a ≤ n ∧ n ≤ b := by simp [inB]
theorem inB_not {n a b : Int} (h : inB n a b = false) (k : a ≤ n ∧ n ≤ b) : False := by simp [inB] at h; omega
set_option maxHeartbeats 2000000 in
set_option maxRecDepth 20000 in
theorem c_areIndices (v : Value) (xs : List Int) (n : Int) (w : World) (hr : RdI w v xs) (h0 : 0 ≤ n) (h1 : n ≤ 9223372036854775807) : Calls Tryz.prog 103 #[v, .int .i64 n] w fun e w' => e = .returned (.bool (tf (Idx xs n))) ∧ w = w' := by
  obtain ⟨A, cap, rfl, hl, hc, hx⟩ := hr.open_
  have HX := hide hx; clear hx hr
  go_enter Tryz.func103, Tryz.ntmps103
  go_wp2
  go_loop [9] (fun i => ∃ k : Nat, k ≤ xs.length ∧ i = .int .i64 k ∧ Upto xs (fun _ x => 0 ≤ x ∧ x ≤ n - 1) k) (fun i => xs.length - (intOf i).toNat)
  case atStart => exact ⟨0, Nat.zero_le _, rfl, Upto.zero⟩
  case round =>
    obtain ⟨k, hk, rfl, hs⟩ := hrel
    have HS := hide hs; clear hs
    by_cases hlt : k < xs.length
    · have hgk := List.getElem?_eq_getElem hlt
      obtain ⟨b, off, rfl, hb, hcell⟩ := HX.out k xs[k] hgk
      generalize xs[k] = x at *
      have HG := hide hgk; clear hgk
      by_cases hq : inB x 0 (n - 1) = true
      · go_wp2_with (go_at_call 100; refine (c_within _ _ _ _).mono ?_; rintro e w' ⟨rfl, rfl⟩)
        go_round
        case rel => exact ⟨k + 1, by omega, by go_num, HS.out.step HG.out (inB_iff.1 hq)⟩
        case measure => simp [intOf]; omega
      · have hq' : inB x 0 (n - 1) = false := by simpa using hq
        clear hq
        go_wp2_with (go_at_call 100; refine (c_within _ _ _ _).mono ?_; rintro e w' ⟨rfl, rfl⟩)
        go_ret
        exact ⟨ret_bool (tf_no (fun hh => inB_not hq' (hh k x HG.out))).symm, rfl⟩
    · have hall := hide (HS.out.all (by omega))
      go_wp2
      go_ret
      exact ⟨ret_bool ((tf_yes hall.out).symm), rfl⟩
set_option maxHeartbeats 2000000 in
set_option maxRecDepth 20000 in
theorem c_areSignals (v : Value) (xs : List (List Int)) (w : World) (hr : T.rd w (T.sl 26 1 (xs.map (T.ints 2))) [v]) : Calls Tryz.prog 178 #[v] w fun e w' => e = .returned (.bool (tf (Each xs fun _ l => sigB l = true))) ∧ w = w' := by
  obtain ⟨A, cap, rfl, hl, hc, hx⟩ := T.rd_openG hr
  have HX := hide hx; clear hx hr
  go_enter Tryz.func178, Tryz.ntmps178
  go_wp2
  go_loop [7] (fun i => ∃ k : Nat, k ≤ xs.length ∧ i = .int .i64 k ∧ Upto xs (fun _ l => sigB l = true) k) (fun i => xs.length - (intOf i).toNat)
  case atStart => exact ⟨0, Nat.zero_le _, rfl, Upto.zero⟩
  case round =>
    obtain ⟨k, hk, rfl, hs⟩ := hrel
    have HS := hide hs; clear hs
    by_cases hlt : k < xs.length
    · have hgk := List.getElem?_eq_getElem hlt
      obtain ⟨b, off, cs, rfl, hb, hcs, hcell⟩ := HX.out k xs[k] hgk
      generalize xs[k] = l at *
      have HG := hide hgk; clear hgk
      obtain ⟨v3, rfl⟩ := T.rd_one hcs
      have d0 := hcell 0 v3 rfl
      rw [Nat.mul_one, Nat.add_zero] at d0
      have R := hide (T.rd_ints.1 hcs); clear hcs hcell
      obtain ⟨A3, c3, rfl, l3, m3, x3⟩ := R.out.open_
      clear x3
      by_cases hq : sigB l = true
      · go_wp2_with (go_at_call 146; refine (c_isSignal _ l _ R.out).mono ?_; rintro e w' ⟨rfl, rfl⟩)
        go_round
        case rel => exact ⟨k + 1, by omega, by go_num, HS.out.step HG.out hq⟩
        case measure => simp [intOf]; omega
      · have hq' : sigB l = false := by simpa using hq
        clear hq
        go_wp2_with (go_at_call 146; refine (c_isSignal _ l _ R.out).mono ?_; rintro e w' ⟨rfl, rfl⟩)
        go_ret
        exact ⟨ret_bool (tf_no (fun hh => by rw [hh k l HG.out] at hq'; exact absurd hq' (by simp))).symm, rfl⟩
    · have hall := hide (HS.out.all (by omega)); clear HS
      go_wp2
      go_ret
      exact ⟨ret_bool (tf_yes hall.out).symm, rfl⟩
set_option maxHeartbeats 2000000 in
set_option maxRecDepth 20000 in
theorem c_areSources (v : Value) (xs : List (List Int)) (w : World) (hr : T.rd w (T.sl 26 1 (xs.map (T.ints 2))) [v]) : Calls Tryz.prog 101 #[v] w fun e w' => e = .returned (.bool (tf (SourcesOk xs))) ∧ w = w' := by
  have R := hide hr
  obtain ⟨A, cap, rfl, hl, hc, hx⟩ := T.rd_openG hr
  clear hx hr
  by_cases h6 : xs.length ≤ 6
  · go_enter Tryz.func101, Tryz.ntmps101
    go_wp2_with (go_at_call 178; refine (c_areSignals _ xs _ R.out).mono ?_; rintro e w' ⟨rfl, rfl⟩)
    go_ret
    exact ⟨ret_bool (tf_iff ⟨fun h => ⟨h, h6⟩, fun h => h.each⟩), rfl⟩
  · go_enter Tryz.func101, Tryz.ntmps101
    go_wp2
    go_ret
    exact ⟨ret_bool (tf_no fun h => h6 h.few).symm, rfl⟩
set_option maxHeartbeats 2000000 in
set_option maxRecDepth 20000 in
theorem c_areTables (v : Value) (xs : List (List Int)) (w : World) (hr : T.rd w (T.sl 26 1 (xs.map (T.ints 2))) [v]) : Calls Tryz.prog 285 #[v] w fun e w' => e = .returned (.bool (tf (TablesOk xs))) ∧ w = w' := by
  obtain ⟨A, cap, rfl, hl, hc, hx⟩ := T.rd_openG hr
  have HX := hide hx; clear hx hr
  go_enter Tryz.func285, Tryz.ntmps285
  go_wp2
  go_loop [8] (fun i => ∃ k : Nat, k ≤ xs.length ∧ i = .int .i64 k ∧ Upto xs (fun _ t => (t.length = 2 ∨ t.length = 4 ∨ t.length = 8 ∨ t.length = 16) ∧ smpB t = true) k) (fun i => xs.length - (intOf i).toNat)
  case atStart => exact ⟨0, Nat.zero_le _, rfl, Upto.zero⟩
  case round =>
    obtain ⟨k, hk, rfl, hs⟩ := hrel
    have HS := hide hs; clear hs
    by_cases hlt : k < xs.length
    · have hgk := List.getElem?_eq_getElem hlt
      obtain ⟨b, off, cs, rfl, hb, hcs, hcell⟩ := HX.out k xs[k] hgk
      generalize xs[k] = l at *
      have HG := hide hgk; clear hgk
      obtain ⟨v3, rfl⟩ := T.rd_one hcs
      have d0 := hcell 0 v3 rfl
      rw [Nat.mul_one, Nat.add_zero] at d0
      have R := hide (T.rd_ints.1 hcs); clear hcs hcell
      obtain ⟨A3, c3, rfl, l3, m3, x3⟩ := R.out.open_
      clear x3
      by_cases hn : l.length = 2 ∨ l.length = 4 ∨ l.length = 8 ∨ l.length = 16
      · by_cases hq : smpB l = true
        · rcases hn with hn | hn | hn | hn
          · skip
            have n2 : ((l.length : Int) != 2) = false := by simp; omega
            clear hn
            have hn : l.length = 2 ∨ l.length = 4 ∨ l.length = 8 ∨ l.length = 16 := by simp at n2; omega
            have HN := hide hn; clear hn
            go_wp2_with (go_at_call 155; refine (c_areSamples _ l _ R.out).mono ?_; rintro e w' ⟨rfl, rfl⟩)
            go_round
            case rel => exact ⟨k + 1, by omega, by go_num, HS.out.step HG.out ⟨HN.out, hq⟩⟩
            case measure => simp [intOf]; omega
          · skip
            have n2 : ((l.length : Int) != 2) = true := by simp; omega
            have n4 : ((l.length : Int) != 4) = false := by simp; omega
            clear hn
            have hn : l.length = 2 ∨ l.length = 4 ∨ l.length = 8 ∨ l.length = 16 := by simp at n4; omega
            have HN := hide hn; clear hn
            go_wp2_with (go_at_call 155; refine (c_areSamples _ l _ R.out).mono ?_; rintro e w' ⟨rfl, rfl⟩)
            go_round
            case rel => exact ⟨k + 1, by omega, by go_num, HS.out.step HG.out ⟨HN.out, hq⟩⟩
            case measure => simp [intOf]; omega
          · skip
            have n2 : ((l.length : Int) != 2) = true := by simp; omega
            have n4 : ((l.length : Int) != 4) = true := by simp; omega
            have n8 : ((l.length : Int) != 8) = false := by simp; omega
            clear hn
            have hn : l.length = 2 ∨ l.length = 4 ∨ l.length = 8 ∨ l.length = 16 := by simp at n8; omega
            have HN := hide hn; clear hn
            go_wp2_with (go_at_call 155; refine (c_areSamples _ l _ R.out).mono ?_; rintro e w' ⟨rfl, rfl⟩)
            go_round
            case rel => exact ⟨k + 1, by omega, by go_num, HS.out.step HG.out ⟨HN.out, hq⟩⟩
            case measure => simp [intOf]; omega
          · skip
            have n2 : ((l.length : Int) != 2) = true := by simp; omega
            have n4 : ((l.length : Int) != 4) = true := by simp; omega
            have n8 : ((l.length : Int) != 8) = true := by simp; omega
            have n16 : ((l.length : Int) != 16) = false := by simp; omega
            clear hn
            have hn : l.length = 2 ∨ l.length = 4 ∨ l.length = 8 ∨ l.length = 16 := by simp at n16; omega
            have HN := hide hn; clear hn
            go_wp2_with (go_at_call 155; refine (c_areSamples _ l _ R.out).mono ?_; rintro e w' ⟨rfl, rfl⟩)
            go_round
            case rel => exact ⟨k + 1, by omega, by go_num, HS.out.step HG.out ⟨HN.out, hq⟩⟩
            case measure => simp [intOf]; omega
        · have hq' : smpB l = false := by simpa using hq
          clear hq
          rcases hn with hn | hn | hn | hn
          · skip
            have n2 : ((l.length : Int) != 2) = false := by simp; omega
            clear hn
            go_wp2_with (go_at_call 155; refine (c_areSamples _ l _ R.out).mono ?_; rintro e w' ⟨rfl, rfl⟩)
            go_ret
            exact ⟨ret_bool (tf_no (fun hh => by rw [(hh.each k l HG.out).2] at hq'; exact absurd hq' (by simp))).symm, rfl⟩
          · skip
            have n2 : ((l.length : Int) != 2) = true := by simp; omega
            have n4 : ((l.length : Int) != 4) = false := by simp; omega
            clear hn
            go_wp2_with (go_at_call 155; refine (c_areSamples _ l _ R.out).mono ?_; rintro e w' ⟨rfl, rfl⟩)
            go_ret
            exact ⟨ret_bool (tf_no (fun hh => by rw [(hh.each k l HG.out).2] at hq'; exact absurd hq' (by simp))).symm, rfl⟩
          · skip
            have n2 : ((l.length : Int) != 2) = true := by simp; omega
            have n4 : ((l.length : Int) != 4) = true := by simp; omega
            have n8 : ((l.length : Int) != 8) = false := by simp; omega
            clear hn
            go_wp2_with (go_at_call 155; refine (c_areSamples _ l _ R.out).mono ?_; rintro e w' ⟨rfl, rfl⟩)
            go_ret
            exact ⟨ret_bool (tf_no (fun hh => by rw [(hh.each k l HG.out).2] at hq'; exact absurd hq' (by simp))).symm, rfl⟩
          · skip
            have n2 : ((l.length : Int) != 2) = true := by simp; omega
            have n4 : ((l.length : Int) != 4) = true := by simp; omega
            have n8 : ((l.length : Int) != 8) = true := by simp; omega
            have n16 : ((l.length : Int) != 16) = false := by simp; omega
            clear hn
            go_wp2_with (go_at_call 155; refine (c_areSamples _ l _ R.out).mono ?_; rintro e w' ⟨rfl, rfl⟩)
            go_ret
            exact ⟨ret_bool (tf_no (fun hh => by rw [(hh.each k l HG.out).2] at hq'; exact absurd hq' (by simp))).symm, rfl⟩
      · have n2 : ((l.length : Int) != 2) = true := by simp; omega
        have n4 : ((l.length : Int) != 4) = true := by simp; omega
        have n8 : ((l.length : Int) != 8) = true := by simp; omega
        have n16 : ((l.length : Int) != 16) = true := by simp; omega
        go_wp2
        go_ret
        exact ⟨ret_bool (tf_no (fun hh => hn (hh.each k l HG.out).1)).symm, rfl⟩
    · have hall := hide (HS.out.all (by omega)); clear HS
      by_cases h4 : xs.length ≤ 4
      · go_wp2
        go_ret
        exact ⟨ret_bool (by rw [tf_yes ⟨hall.out, h4⟩]; simp; omega), rfl⟩
      · go_wp2
        go_ret
        exact ⟨ret_bool (by rw [tf_no fun h => h4 h.few]; simp; omega), rfl⟩
set_option maxHeartbeats 2000000 in
set_option maxRecDepth 20000 in
theorem c_isClip (x : GClip) (cs : List Value) (w : World) (h : T.rds w x.fs cs) : Calls Tryz.prog 181 #[.agg cs.toArray] w fun e w' => e = .returned (.bool (tf (ClipOk x))) ∧ Below w.heap.size w w' := by
  obtain rfl := GClip.rd_open h
  clear h
  have HB0 := hide (show Below w.heap.size w (w.alloc (.cells #[.int .i64 x.fSource, .int .i64 x.fFrom, .int .i64 x.fLength, .int .i64 x.fAt, .int .i64 x.fGain] 39)) from (Below.refl _ _).alloc (Nat.le_refl _) _)
  have HK0 := hide (Bk.born w 39 #[.int .i64 x.fSource, .int .i64 x.fFrom, .int .i64 x.fLength, .int .i64 x.fAt, .int .i64 x.fGain])
  go_enter Tryz.func181, Tryz.ntmps181
  by_cases h1 : inB x.fSource 0 5 = true
  rotate_left
  · have hq : inB x.fSource 0 5 = false := by simpa using h1
    go_wp2_with (go_at_call 100; refine (c_within _ _ _ _).mono ?_; rintro e w' ⟨rfl, rfl⟩)
    go_ret
    exact ⟨ret_bool (tf_no fun hh => by exact h1 hh.source).symm, HB0.out⟩
  by_cases h2 : inB x.fLength 1 4000 = true
  rotate_left
  · have hq : inB x.fLength 1 4000 = false := by simpa using h2
    go_wp2_with (go_at_call 100; refine (c_within _ _ _ _).mono ?_; rintro e w' ⟨rfl, rfl⟩)
    go_ret
    exact ⟨ret_bool (tf_no fun hh => by exact h2 hh.length).symm, HB0.out⟩
  have hb := inB_iff.1 h2
  by_cases h3 : inB x.fFrom 0 (4000 - x.fLength) = true
  rotate_left
  · have hq : inB x.fFrom 0 (4000 - x.fLength) = false := by simpa using h3
    go_wp2_with (go_at_call 100; refine (c_within _ _ _ _).mono ?_; rintro e w' ⟨rfl, rfl⟩)
    go_ret
    exact ⟨ret_bool (tf_no fun hh => by exact h3 hh.from_).symm, HB0.out⟩
  by_cases h4 : inB x.fAt 0 (4000 - x.fLength) = true
  rotate_left
  · have hq : inB x.fAt 0 (4000 - x.fLength) = false := by simpa using h4
    go_wp2_with (go_at_call 100; refine (c_within _ _ _ _).mono ?_; rintro e w' ⟨rfl, rfl⟩)
    go_ret
    exact ⟨ret_bool (tf_no fun hh => by exact h4 hh.at_).symm, HB0.out⟩
  by_cases h5 : Smp x.fGain
  rotate_left
  · have hq : decide (Smp x.fGain) = false := by simpa using h5
    go_wp2_with (first | (go_at_call 100; refine (c_within _ _ _ _).mono ?_; rintro e w' ⟨rfl, rfl⟩) | (go_at_call 188; refine (c_isSample _ _).mono ?_; rintro e w' ⟨rfl, rfl⟩))
    go_ret
    exact ⟨ret_bool (tf_no fun hh => by exact h5 hh.gain).symm, HB0.out⟩
  have hq : decide (Smp x.fGain) = true := by simpa using h5
  go_wp2_with (first | (go_at_call 100; refine (c_within _ _ _ _).mono ?_; rintro e w' ⟨rfl, rfl⟩) | (go_at_call 188; refine (c_isSample _ _).mono ?_; rintro e w' ⟨rfl, rfl⟩))
  go_ret
  exact ⟨ret_bool (by rw [tf_yes ⟨h1, h2, h3, h4, h5⟩]), HB0.out⟩
end Go.Proofs.YtajoaflfjilhmaaGreat
end
section
namespace Go.Proofs.YtajoaflfjilhmaaGreat
open Go.RowKit
end Go.Proofs.YtajoaflfjilhmaaGreat
end
