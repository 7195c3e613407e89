/- Contract: the map of the desk's words. -/
import Derived.Test.YtpmflkoepnanoaaAa
import Derived.Test.YtpmflkoepnanoaaLk
import Derived.Maps.Own
import Derived.Maps.RangeWalk
import Derived.Maps.StringElems
import Derived.Sort.KeysCollected
import Derived.Sort.OwnSorted
import Derived.Test.YtpmflkoepnanoaaVa
import Derived.Test.YtpmflkoepnanoaaSh
namespace Go.Proofs.Ytpmflkoepnanoaa
open Go.RowKit Go.WideMaps Go.Maps Go.Sort
/-- An entry of a map that is written out, at its operation. -/
theorem wpList_insert_own {H : Type} {P : Program} (w : World) {ops : Array Oper} {rest : List Oper} {o : Oper} {a : Act} {Q : Exit → Act → World → Prop}
    (hg : o.guard = none) (m x v : Operand) (t : TypeId) (hop : o.op = Op.insert t m x v)
    (k e : TypeId) (K : Keyed P k) (ht : P.underlying t = some (.map k e)) (R : Value → Option (DataW H × List MemPlace)) (b n : Nat) (D : DataW H)
    (hm : a.eval m = .map (some b)) (hown : w.ownsMap P k R b n D) (hn : n < maxLen) (key val : Value) (kl : Lit) (hx : a.eval x = key) (hv : a.eval v = val) (hkey : keyOf P k key = some kl)
    (d : DataW H) (ps : List MemPlace) (hval : R val = some (d, ps))
    (hK : ∀ w', w'.ownsMap P k R b (n + 1) (D.put kl d) → w.grownBy w' (some b) → wpList P ops Q rest (a.put o.dst undef) w') :
    wpList P ops Q (o :: rest) a w := by
  refine wpList_plain hg fun K' hK' => ?_
  obtain ⟨w', hrun, r1, r2⟩ := hown.update K ht hn hkey hval
  unfold Oper.wp
  simp [execOp, hop, hm, hx, hv, hrun, Result.andThen]
  exact hK' _ _ (hK w' r1 r2)
theorem lawS : Keyed Try.prog 9 := string_keyed Try.underlying9
/-- The words with which commands begin, as they follow one another. -/
def wordsL : List (List UInt8) := [[98, 101, 97, 116, 115], [99, 104, 111, 114, 100], [99, 108, 105, 112], [100, 101, 99, 105, 109, 97, 116, 101], [102, 111, 108, 100], [102, 114, 101, 113, 117, 101, 110, 99, 121], [103, 97, 105, 110], [104, 111, 108, 100], [105, 116, 101, 109, 115], [108, 101, 110, 103, 116, 104], [109, 105, 120], [109, 111, 118, 101], [110, 111, 116, 101, 115], [110, 117, 108, 108], [112, 97, 114, 116], [112, 108, 97, 121], [112, 114, 111, 106, 101, 99, 116], [113, 117, 97, 110, 116, 105, 122, 101], [114, 101, 118, 101, 114, 115, 101], [115, 104, 105, 102, 116], [115, 104, 111, 119], [115, 105, 103, 110, 97, 108], [115, 111, 117, 114, 99, 101], [115, 116, 101, 109], [115, 116, 111, 114, 101], [115, 116, 114, 101, 116, 99, 104], [115, 117, 109, 115], [116, 97, 112, 115], [116, 101, 109, 112, 111], [116, 114, 97, 99, 107], [116, 117, 110, 101], [119, 97, 118, 101]]
set_option maxRecDepth 100000 in
set_option maxHeartbeats 4000000 in
theorem c_deskForms (w : World) : Calls Try.prog 29 #[] w fun e w' => ∃ (n : Nat) (D : DataW Unit), e = .returned (.map (some w.heap.size)) ∧ w'.ownsMap Try.prog 9 (plainElem (H := Unit) Try.prog 9) w.heap.size n D ∧ strKeys D = wordsL ∧ Maps.size D = 32 ∧ Below w.heap.size w w' := by
  have hmm := @run_makeMap Try.prog
  have hown1 := World.ownsMap_made w Try.prog 9 (plainElem (H := Unit) Try.prog 9)
  have hb1 := (Below.refl w.heap.size w).alloc (Nat.le_refl _) (.map #[] 0)
  go_enter Try.func29, Try.ntmps29
  go_wp2_with (refine wpList_insert_own _ rfl _ _ _ _ rfl _ _ lawS Try.underlying66 _ _ _ _ rfl hown1 (by decide) _ _ _ rfl rfl (keyOf_string_mk Try.underlying9 (by decide)) _ [] (plainElem_string Try.underlying9 (by decide)) ?_; intro w1 hown2 hgrow1; have hb2 := hb1.grown hgrow1 hb1.size (fun j hj => by cases hj; exact Nat.le_refl _); clear hown1 hb1 hgrow1; have hown1 := hown2; have hb1 := hb2; clear hown2 hb2)
  go_ret
  exact ⟨rfl, _, _, hown1, by rfl, by rfl, hb1⟩
theorem row_ne_map {H : Type} {P : Program} {k : TypeId} {R : Value → Option (DataW H × List MemPlace)} {w : World} {b n : Nat} {D : DataW H} {base : Nat} {e : TypeId} {size : Nat} {v : Value} {m : Nat} {xs : List Value}
    (h : w.ownsRow base e size v m xs) (hr : w.ownsMap P k R b n D) : some b ≠ v.ownBlock := by
  obtain ⟨_, _, hit, _⟩ := hr
  rcases h.2 with ⟨rfl, _⟩ | ⟨g, cap, cur, rfl, _, hb, _⟩
  · simp [Value.ownBlock]
  · intro e1
    have : b = g := by simpa [Value.ownBlock] using e1
    subst this
    rw [hit] at hb
    cases hb
theorem encS (ss : List (List UInt8)) : (ss.map mkS).flatMap strV = ss.map encStr := by
  induction ss with
  | nil => rfl
  | cons x t ih => rw [List.map_cons, List.flatMap_cons, ih]; rfl
theorem wordsL_sorted : wordsL.mergeSort (fun x y => decide (x ≤ y)) = wordsL := by
  refine List.mergeSort_of_pairwise ?_
  decide
set_option maxRecDepth 100000 in
set_option maxHeartbeats 2000000 in
theorem c_iDeskWords (w : World) : Calls Try.prog 7 #[] w fun e w' => ∃ v, e = .returned v ∧ OwS 9 w' w.heap.size v (wordsL.map mkS) ∧ Below w.heap.size w w' := by
  have HN := hide (new_str w)
  have HA := hide ((Below.refl w.heap.size w).alloc (Nat.le_refl _) (.cells #[] 9))
  have e1 : (w.alloc (.cells #[] 9)).heap.size = w.heap.size + 1 := by simp
  go_enter Try.func7, Try.ntmps7
  go_wp2_with fail
  refine (c_deskForms _).mono ?_; rintro e w1 ⟨n, D, rfl, hown, hk, hsz, hb1⟩
  rw [e1] at hown ⊢
  have HK := hide hk; have HSZ := hide hsz
  have HO1 := hide (HN.out.all hb1); have HB1 := hide (bthen HA.out HA.out.size hb1); have HM := hide hown
  have hz1 : w.heap.size + 1 ≤ w1.heap.size := by have := hb1.size; rw [e1] at this; exact this
  clear hk hsz hb1 e1
  go_wp2_with (at_range; refine wpList_range_own _ rfl _ 66 rfl _ _ lawS Try.underlying66 _ _ n D rfl hown ?_; intro w0 hrg0 hg0 hs0)
  go_frame
  have HRG0 := hide hrg0; have HO0 := hide (show OwS 9 w0 w.heap.size _ [] from ⟨strV_len, HO1.out.2.kept hg0 (.inr (by intro e; cases e))⟩); have HB0 := hide (HB1.out.grown hg0 (by omega) (fun j hj => by cases hj))
  clear hrg0 hg0 hs0
  go_loopw [1] (fun v wr => ∃ (left : Lit → Bool) (cnt : Nat) (ss : List (List UInt8)), wr.ranges Try.prog 9 (plainElem (H := Unit) Try.prog 9) (w.heap.size + 1) w1.heap.size n D left cnt ∧ ss.length + cnt ≤ 32 ∧ OwS 9 wr w.heap.size v (ss.map mkS) ∧ Collected D left ss ∧ Below w.heap.size w wr)
    (fun _ wr => wr.rangeLeft (w.heap.size + 1) w1.heap.size)
  case atStart =>
    exact ⟨_, _, [], HRG0.out, by rw [HSZ.out]; simp, HO0.out, Collected.start D, HB0.out⟩
  case round =>
    obtain ⟨left, cnt, ss, hrg, hcs, ho, hC, hnx⟩ := hrel
    have HRG := hide hrg; have HO := hide ho; have HC := hide hC; have HB := hide hnx; have hsz := hnx.size
    go_wp2_with (at_next; refine wpList_next_ranges _ rfl _ rfl _ lawS (plainElem (H := Unit) Try.prog 9) encStr encStr (fun key kl hk => by obtain ⟨x, hx, _⟩ := Maps.keyOf_str Try.underlying9 hk; exact ⟨x, hx⟩) (fun v y hv => by obtain ⟨s, rfl, _⟩ := plainElem_string_inv Try.underlying9 hv; exact ⟨s.data.toList, by simp [encStr]⟩) (w.heap.size + 1) w1.heap.size n _ _ _ rfl hrg ?_ ?_)
    · intro hc0 hl0
      have hperm := hC.perm HM.out lawS Try.underlying9 hl0
      rw [HK.out] at hperm
      have hlen : ss.length = 32 := by rw [hperm.length_eq]; rfl
      have hms : ss.mergeSort (fun x y => decide (x ≤ y)) = wordsL := (mergeSort_of_perm hperm).trans wordsL_sorted
      clear hrg hC hnx hl0 hc0 hcs hperm
      rcases ho.2.2 with ⟨_, h0⟩ | ⟨g, cap, cur, rfl, hbase, hb, hh1, hh2, hh3, hh4⟩
      · rw [List.length_map] at h0; omega
      · rw [List.length_map] at hh1 hh4 ⊢
        rw [encS, Nat.mul_one] at hh4
        have hH := holds_of_block hb hh4
        have hgl : g < wr.heap.size := (Array.getElem?_eq_some_iff.1 hb).1
        have HS := hide (fun os n => ownsRow_sorted (w := wr) (n := n) (os := os) (ss := ss) (ts := wordsL) (by rw [hlen]; rfl) hbase hb hh1 hh2 hh3)
        have HSRT := hide hms; have HLEN := hide hlen
        clear ho hb hh1 hh2 hh3 hh4 hms hlen
        go_wp2_with (go_at_call 30; refine (Try.slices_Sort_string g 0 cap ss _ hH hgl (by have := HLEN.out; omega)).mono ?_; rw [HSRT.out]; rintro e w' ⟨rfl, nn, os, rfl⟩)
        go_ret
        refine ⟨_, rfl, ⟨strV_len, ?_⟩, HB.out.grown (grownBy_sorted _) HB.out.size (fun j hj => by cases hj; exact hbase)⟩
        rw [encS, List.length_map]
        have h1 := HS.out os nn
        have h2 : wordsL.length = ss.length := by rw [HLEN.out]; rfl
        rw [h2]
        exact h1
    · intro x c kl yd yp w2 cnt2 hkey hlk hv hat hrg2 hlt hg2 hs2 hen
      obtain ⟨x', ex, rfl, _⟩ := Maps.keyOf_str Try.underlying9 hkey
      obtain rfl : x = x' := encStr_inj ex
      have ho2 : OwS 9 w2 w.heap.size _ (ss.map mkS) := ⟨strV_len, ho.2.kept hg2 (.inr (row_ne_iter ho.2 hrg).symm)⟩
      have HO2 := hide ho2; have HRG2 := hide hrg2; have HB2 := hide (HB.out.grown hg2 HB.out.size (fun j hj => by cases hj; omega)); have HC2 := hide (hC.step hlk hat); have HLT := hide hlt
      have hsz2 := HB2.out.size
      clear hs2 ho ho2 hrg2 hg2 hC hnx hat hlk hv hlt
      go_wp2_with (at_builtin; refine app1_str (n := mkS x) rfl _ _ rfl rfl HO2.out rfl (by rw [List.length_map]; omega) hsz2 ?_; intro v5 w5 ho5 hg5 hv5; have HO5 := hide ho5; have HB5 := hide (below_own HB2.out HO2.out.2 hg5 (Nat.le_refl _) hsz2); have HRG5 := hide (HRG2.out.kept hg5 (row_ne_map HO2.out.2 HRG2.out.owns) (row_ne_iter HO2.out.2 HRG2.out)); clear ho5 hg5 hv5; go_frame)
      go_roundw
      case rel => exact ⟨_, cnt2, ss ++ [x], HRG5.out, by have := HLT.out; simp; omega, by rw [List.map_append]; exact HO5.out, HC2.out, HB5.out⟩
      case measure => rw [HRG5.out.left_eq, hrg.left_eq]; exact HLT.out
end Go.Proofs.Ytpmflkoepnanoaa
