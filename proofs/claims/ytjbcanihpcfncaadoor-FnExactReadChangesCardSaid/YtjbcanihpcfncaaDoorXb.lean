/- Contract: changes applied, by the program. -/
import Derived.Test.YtjbcanihpcfncaaDoorXa
import Derived.Test.YtjbcanihpcfncaaDoorUj
import Derived.Test.YtjbcanihpcfncaaDoorTc
namespace Go.Proofs.YtjbcanihpcfncaaDoor
open Go.RowKit
set_option maxHeartbeats 1000000 in
theorem c_lines2 (s : ByteArray) (w : World) (hs : s.size ≤ 1048576) : Calls Tryd.prog 14 #[.string s] w fun e w' => ∃ cap, (linesF s).length < cap ∧ e = .returned (.slice (some ⟨w.heap.size, 0, none⟩) (linesF s).length cap) ∧ OwS 9 w' w.heap.size (.slice (some ⟨w.heap.size, 0, none⟩) (linesF s).length cap) (linesF s) ∧ Below w.heap.size w w' := by
  have hl := length_partsB 10 s
  have hlt := linesF_take s
  have hll := length_linesF s
  have hn := count_le s
  generalize hN : s.data.toList.count 10 = N at *
  generalize hP : partsB 10 s = ps at *
  generalize hL : linesF s = ls at *
  have HP := hide hP; have HL := hide hL; have HLT := hide hlt; have HPL := hide hl; have HLL := hide hll; clear hP hL hlt hN hll
  rw [HLL.out]
  go_enter Tryd.func14, Tryd.ntmps14
  go_wp2_with fail
  refine (c_Split s _ hs).mono ?_; rintro e w1 ⟨cap, rfl, ho, hb⟩
  rw [HP.out] at ho
  rw [HP.out, HPL.out]
  rw [HPL.out] at ho
  have hcp := cap_of ho.rd rfl
  have h1 : ps.length = N + 1 := hl
  have HO := hide ho; have HB := hide hb; clear ho hb hl
  have hcc : N ≤ cap := by omega
  have hc3 := hide (show N < cap by omega)
  have hc2 : cap ≤ 9223372036854775807 := hcp.2.2
  clear hcp
  go_wp2
  go_ret
  exact ⟨cap, hc3.out, rfl, by rw [HLT.out]; exact HO.out.cut (by omega), HB.out⟩
theorem line_size {s : ByteArray} : Shrt (linesF s) ∨ ¬ s.size ≤ 1048576 := by
  by_cases h : s.size ≤ 1048576
  · left
    intro x hx
    unfold linesF partsB at hx
    have hx2 := (List.dropLast_sublist _).subset hx
    simp only [List.mem_map] at hx2
    obtain ⟨p, hp, rfl⟩ := hx2
    rw [size_mkS]
    have hgen : ∀ (l : List UInt8), ∀ p ∈ partsL 10 l, p.length ≤ l.length := by
      intro l
      induction l with
      | nil => intro p hp; simp [partsL] at hp; simp [hp]
      | cons b t ih =>
        intro p hp
        unfold partsL at hp
        split at hp
        · rcases List.mem_cons.1 hp with rfl | hp
          · simp
          · have := ih p hp; simp; omega
        · cases hq : partsL 10 t with
          | nil => exact absurd hq (partsL_ne _ _)
          | cons q r =>
            rw [hq] at hp ih
            simp only at hp
            rcases List.mem_cons.1 hp with rfl | hp
            · have := ih q (by simp); simp; omega
            · have := ih p (by simp [hp]); simp; omega
    have := hgen _ p hp
    have e : s.data.toList.length = s.size := Array.length_toList
    omega
  · exact .inr h
theorem RdS_sub {w : World} {b off n cap : Nat} {xs : List ByteArray} (h : RdS w (.slice (some ⟨b, off, none⟩) n cap) xs) {lo hi : Nat} (hlo : lo ≤ hi) (hhi : hi ≤ n) : RdS w (.slice (some ⟨b, off + lo, none⟩) (hi - lo) (cap - lo)) ((xs.drop lo).take (hi - lo)) := by
  obtain ⟨h0, h1, A, cap', h2, h3, h4, h5⟩ := h
  injection h2 with h2 h6 h7
  subst h6 h7
  have hlen : ((xs.drop lo).take (hi - lo)).length = hi - lo := by simp; omega
  refine ⟨h0, flat_len h0 _, some ⟨b, off + lo, none⟩, cap - lo, by rw [hlen], by rw [hlen]; omega, by omega, fun hpos => ?_⟩
  rw [hlen] at hpos
  obtain ⟨b', off', he, hb, hc⟩ := h5 (by omega)
  rw [← h2] at he
  injection he with he
  injection he with e1 e2
  subst e1 e2
  refine ⟨b, off + lo, rfl, hb, fun j u hu => ?_⟩
  have hj : j < hi - lo := by have := (List.getElem?_eq_some_iff.1 hu).1; rw [flat_len h0, hlen, Nat.mul_one] at this; exact this
  rw [Nat.add_assoc]
  refine hc (lo + j) u ?_
  have hx : lo + j < xs.length := by omega
  have e3 : ((xs.drop lo).take (hi - lo))[j]? = some xs[lo + j] := by rw [List.getElem?_take_of_lt hj, List.getElem?_drop, List.getElem?_eq_getElem hx]
  have e4 := flat_at h0 (j := 0) (u := .string xs[lo + j]) e3 rfl
  have e5 := flat_at h0 (j := 0) (u := .string xs[lo + j]) (List.getElem?_eq_getElem hx) rfl
  rw [Nat.mul_one, Nat.add_zero] at e4 e5
  rw [e4] at hu
  rw [e5, hu]
theorem RdS_sub0 {w : World} {b n cap : Nat} {xs : List ByteArray} (h : RdS w (.slice (some ⟨b, 0, none⟩) n cap) xs) {lo hi : Nat} (hlo : lo ≤ hi) (hhi : hi ≤ n) : RdS w (.slice (some ⟨b, lo, none⟩) (hi - lo) (cap - lo)) ((xs.drop lo).take (hi - lo)) := by
  have := RdS_sub h hlo hhi
  rw [Nat.zero_add] at this
  exact this
theorem badC_true1 {ls : List ByteArray} {c : Chg} (h : (ls.length : Int) < c.p) : badC ls c = true := by unfold badC; rw [decide_eq_true h]; rfl
theorem badC_true2 {ls : List ByteArray} {c : Chg} (hk : c.k = 1) (hp : c.p = ls.length) : badC ls c = true := by
  unfold badC
  have : ls[c.p.toNat]? = none := by rw [List.getElem?_eq_none_iff]; omega
  rw [this, decide_eq_true hk]; simp
theorem badC_true3 {ls : List ByteArray} {c : Chg} {x : ByteArray} (hk : c.k = 1) (hp : ls[c.p.toNat]? = some x) (hx : x ≠ c.t) : badC ls c = true := by
  unfold badC
  rw [hp, decide_eq_true hk]
  have : (some x ≠ some c.t) := by intro e; injection e with e; exact hx e
  rw [decide_eq_true this]; simp
theorem badC_false1 {ls : List ByteArray} {c : Chg} (hk : c.k = 1) (hp : ls[c.p.toNat]? = some c.t) (hle : c.p ≤ ls.length) : badC ls c = false := by
  unfold badC
  rw [hp]
  simp; omega
theorem badC_false2 {ls : List ByteArray} {c : Chg} (hk : ¬ c.k = 1) (hle : c.p ≤ ls.length) : badC ls c = false := by
  unfold badC
  rw [decide_eq_false hk]
  simp; omega
theorem any_bad {ls : List ByteArray} {cs : List Chg} {k : Nat} {c : Chg} (hk : cs[k]? = some c) (hb : badC ls c = true) : cs.any (badC ls) = true := List.any_eq_true.2 ⟨c, List.mem_of_getElem? hk, hb⟩
theorem any_next {ls : List ByteArray} {cs : List Chg} {k : Nat} {c : Chg} (h : (cs.take k).any (badC ls) = false) (hk : cs[k]? = some c) (hb : badC ls c = false) : (cs.take (k + 1)).any (badC ls) = false := by
  rw [take_snoc_of hk, List.any_append, h]; simp [hb]
end Go.Proofs.YtjbcanihpcfncaaDoor
