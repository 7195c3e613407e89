/- FramesOf: the walk of the program's side; the law. -/
import Derived.Test.YtopgjanpbfnlnaaGb
namespace Go.Proofs.Ytopgjanpbfnlnaa
open Go.RowKit
theorem plF_no {s : ByteArray} : ∀ (k p : Nat) (acc : List Int), (plF s k p acc).2 ≠ 0 → (plF s k p acc).1 = []
  | 0, p, acc => by unfold plF; split <;> simp
  | k + 1, p, acc => by
    unfold plF
    split
    · simp
    · exact plF_no k _ _
theorem placesF_no {s : ByteArray} {ps : List Int} {c : Int} (h : placesF s = (ps, c)) (hc : c ≠ 0) : ps = [] := by
  have h1 : (placesF s).1 = ps := by rw [h]
  have h2 : (placesF s).2 = c := by rw [h]
  rw [← h1]
  rw [← h2] at hc
  unfold placesF at *
  split
  · rename_i h0
    rw [if_pos h0] at hc
    exact plF_no _ _ _ hc
  · rfl
set_option maxHeartbeats 1000000 in
set_option maxRecDepth 100000 in
theorem c_iFramesOf (s : ByteArray) (w : World) (hs : s.size ≤ 1073741824) : Calls Try.prog 28 #[.string s] w (FrO s w) := by
  go_enter Try.func28, Try.ntmps28
  go_wp2_with fail
  refine (c_openStore s _ hs).mono ?_; rintro e w1 ⟨v, t, n, f, c, rfl, hc, hok, ho, hb⟩
  have hsz := hb.size
  obtain ⟨A, cap, rfl, _, _, _⟩ := ho.rd.open_
  have hcl : placesF s = ((placesF s).1, c) := by rw [hc]
  clear hc
  generalize (placesF s).1 = ps at *
  have HO := hide ho; have HB := hide hb; have HC := hide hcl; clear ho hb hcl hok
  by_cases hz : c = 0
  · subst hz
    go_wp2
    go_ret2
    exact ⟨_, by rw [HC.out]; rfl, by rw [HC.out]; exact HO.out.below (((Below.refl _ _).alloc (Nat.le_refl _) _)) (fun b h => (HO.out.lt b h).2), HB.out.alloc hsz _⟩
  · have hp := placesF_no HC.out hz
    have hzb : (c != 0) = true := by simp; exact hz
    have HP := hide hp; clear hp
    go_wp2
    go_ret2
    exact ⟨.slice none 0 0, by rw [HC.out]; rfl, by rw [HC.out]; simp only; rw [HP.out]; exact OwI.nil_ _ _ _, HB.out.alloc hsz _⟩
end Go.Proofs.Ytopgjanpbfnlnaa
