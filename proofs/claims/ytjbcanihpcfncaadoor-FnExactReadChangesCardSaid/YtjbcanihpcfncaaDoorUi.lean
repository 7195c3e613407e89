/- Contracts: marks in lists of changes; append of a change. -/
import Derived.Test.YtjbcanihpcfncaaDoorUc
import Derived.Test.YtjbcanihpcfncaaDoorUh
import Derived.Test.YtjbcanihpcfncaaDoorUx
import Derived.Deep.RegionHeld3
namespace Go.Proofs.YtjbcanihpcfncaaDoor
open Go.RowKit
/-- The changes with which a list is marked. -/
def mrkC (j : Nat) : Chg := ⟨(j : Int), ((j + 1 : Nat) : Int), mrkB (j + 2)⟩
def mrkCs (m n : Nat) : List Chg := (List.range n).map fun i => mrkC (m + 3 * i)
theorem length_mrkCs (k n : Nat) : (mrkCs k n).length = n := by simp [mrkCs]
theorem mrkCs_at {k n i : Nat} (h : i < n) : (mrkCs k n)[i]? = some (mrkC (k + 3 * i)) := by simp [mrkCs, h]
theorem OwC_two {E : TypeId} {w : World} {B n g cap : Nat} {cs : List Chg} {k : Nat} {old : Chg} (h : OwC E w B (.slice (some ⟨g, 0, none⟩) n cap) cs) (hk : cs[k]? = some old) (a b : Int) :
    ∀ w2, Below ((w.setCell ⟨g, k * 3, none⟩ (.int .i64 a)).setCell ⟨g, k * 3 + 1, none⟩ (.int .i64 b)).heap.size ((w.setCell ⟨g, k * 3, none⟩ (.int .i64 a)).setCell ⟨g, k * 3 + 1, none⟩ (.int .i64 b)) w2 →
      w2.cell? ⟨g, k * 3 + 2, none⟩ = some (.string old.t) ∧ w2.frozen? ⟨g, k * 3 + 2, none⟩ = false ∧
      ∀ t, OwC E (w2.setCell ⟨g, k * 3 + 2, none⟩ (.string t)) B (.slice (some ⟨g, 0, none⟩) n cap) (cs.set k ⟨a, b, t⟩) := by
  intro w2 hb
  obtain rfl := h.sizeN
  have hlt := (List.getElem?_eq_some_iff.1 hk).1
  have h1 := World.ownsRow.stored h.2 (k * 3) (.int .i64 a)
  have h2 := World.ownsRow.stored h1.1 (k * 3 + 1) (.int .i64 b)
  have h3 := own_all h2.1 hb
  have hl : (cs.flatMap chgV).length = cs.length * 3 := flat_len chgV_len cs
  refine ⟨?_, World.ownsRow.frozenAt h3 _, fun t => ⟨h.1, ?_⟩⟩
  · rw [World.ownsRow.cellAt h3 (k * 3 + 2) (by omega), List.getElem?_set_ne (by omega), List.getElem?_set_ne (by omega)]
    exact flat_at chgV_len hk rfl
  · have h4 := World.ownsRow.stored h3 (k * 3 + 2) (.string t)
    rw [List.length_set, ← flat_set3 ⟨a, b, t⟩ hlt]
    exact h4.1
set_option maxHeartbeats 1000000 in
set_option maxRecDepth 20000 in
theorem c_markCS (B : Nat) (v : Value) (xs : List Chg) (m : Nat) (w : World) (ho : OwC 35 w B v xs) (h0 : 0 < m) (hm : m + 3 * xs.length ≤ 4611686018427387904) (hB : B ≤ w.heap.size) :
    Calls Tryd.prog 7 #[v, .int .i64 m] w fun e w' => e = .returned (.int .i64 ((m + 3 * xs.length : Nat) : Int)) ∧ OwC 35 w' B v (mrkCs m xs.length) ∧ w.grownBy w' v.ownBlock := by
  rcases Nat.eq_zero_or_pos xs.length with hz | hz
  · have hx : xs = [] := List.eq_nil_of_length_eq_zero hz
    subst hx
    obtain ⟨A, cap, rfl, hl, hc, _⟩ := ho.rd.open_
    have HO := hide ho; clear ho hz
    simp only [List.length_nil] at *
    go_enter Tryd.func7, Tryd.ntmps7
    go_wp2
    refine wp_loop_rounds 1 ?_
    rw [rounds_succ]
    go_wp2
    go_ret
    exact ⟨by simp, by simpa [mrkCs] using HO.out, World.grownBy.refl _ _⟩
  · obtain ⟨g, cap, rfl, hl, hg, hgw⟩ := ho.form hz
    have HO := hide ho; clear ho
    go_enter Tryd.func7, Tryd.ntmps7
    go_wp2
    go_loopw [1, 5] (fun t i wr => ∃ (k j : Nat), k ≤ xs.length ∧ i = .int .i64 k ∧ t = .int .i64 (j : Int) ∧ j = m + 3 * k ∧ OwC 35 wr B (.slice (some ⟨g, 0, none⟩) xs.length cap) ((mrkCs m xs.length).take k ++ xs.drop k) ∧ w.grownBy wr (some g)) (fun _ i _ => xs.length - (intOf i).toNat)
    case atStart => exact ⟨0, m, Nat.zero_le _, rfl, rfl, by omega, by simpa using HO.out, World.grownBy.refl _ _⟩
    case round =>
      obtain ⟨k, j, hk, rfl, rfl, hj, ho, hb⟩ := hrel
      have HO := hide ho; have HB := hide hb; have hsz : B ≤ wr.heap.size := Nat.le_trans hB hb.size
      by_cases hlt : k < xs.length
      · have HSM := hide (set_mix (length_mrkCs m xs.length) (mrkCs_at (k := m) hlt))
        have hmx := (getElem?_mix (length_mrkCs m xs.length) hlt).trans (List.getElem?_eq_getElem hlt)
        have hml : k < ((mrkCs m xs.length).take k ++ xs.drop k).length := (List.getElem?_eq_some_iff.1 hmx).1
        generalize hL : (mrkCs m xs.length).take k ++ xs.drop k = L at *
        generalize xs[k] = x at *
        have c0 := ho.cellN hmx (j := 0) rfl; have c1 := ho.cellN hmx (j := 1) rfl; have c2 := ho.cellN hmx (j := 2) rfl
        have f0 := ho.freeN (k * 3); have f1 := ho.freeN (k * 3 + 1); have f2 := ho.freeN (k * 3 + 2)
        rw [Nat.add_zero] at c0
        have HT := hide (OwC_two ho hmx (j : Int) ((j + 1 : Nat) : Int))
        have HJ := hide hj
        have hjb : j + 2 ≤ 4611686018427387904 := by omega
        clear hmx hml hj hL ho hb
        go_wp2_with (go_at_call 19; refine (c_markText (j + 2) _ (by omega) hjb).mono ?_; rintro e w2 ⟨rfl, hb2⟩; obtain ⟨c3, f3, ht3⟩ := HT.out w2 hb2; have HB2 := hide (((HB.out.trans (grown_set _ g _ _)).trans (grown_set _ g _ _)).trans (grown_below hb2 _)); have HT3 := hide ht3; clear hb2 ht3)
        go_roundw
        case rel => exact ⟨k + 1, j + 3, by omega, by go_num, by go_num, by rw [HJ.out]; omega, by have := HT3.out (mrkB (j + 2)); rw [show (⟨(j : Int), ((j + 1 : Nat) : Int), mrkB (j + 2)⟩ : Chg) = mrkC (m + 3 * k) by rw [HJ.out]; rfl, HSM.out] at this; exact this, HB2.out.trans (grown_set _ g _ _)⟩
        case measure => simp [intOf]; omega
      · go_wp2
        go_ret
        have : k = xs.length := by omega
        subst this
        exact ⟨by rw [hj]; rfl, by have := HO.out; rw [List.take_of_length_le (by simp [length_mrkCs]), List.drop_length, List.append_nil] at this; exact this, HB.out⟩
end Go.Proofs.YtjbcanihpcfncaaDoor
