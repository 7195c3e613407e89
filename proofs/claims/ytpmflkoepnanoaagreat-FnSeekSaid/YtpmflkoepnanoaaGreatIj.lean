/- DecodeFrame: the law. -/
import Derived.Test.YtpmflkoepnanoaaGreatIh
import Derived.Test.YtpmflkoepnanoaaGreatAc
namespace Go.Proofs.YtpmflkoepnanoaaGreat
open Go.RowKit
theorem length_restF : ∀ (m : Nat) (xs : List Int), (restF m xs).length = xs.length
  | 0, _ => rfl
  | m + 1, xs => by simp only [restF]; rw [length_restF m, length_sumL]
theorem decFrF_len {s : ByteArray} : (decFrF s).1.length ≤ 70000 := by
  have hn := numS_lt s 0
  unfold decFrF
  split
  · simp
  · split
    · simp
    · split
      · simp
      · split
        · simp
        · rename_i h0
          split
          · simp
          · have hbd := decF_bd (l := (bitS s).data.toList) (k := bA s 3) (numS s 0) 0 [] (Nat.zero_le _) (by simp)
            have := hbd.2.2.1 (by simpa [decD] using h0)
            simp only [length_restF]
            have e : (decD s).1.length = numS s 0 := by unfold decD; simpa using this
            omega
theorem decFrF_code {s : ByteArray} : (decFrF s).2 ≠ 0 → (decFrF s).1 = [] := by
  unfold decFrF
  split
  · simp
  · split
    · simp
    · split
      · simp
      · split
        · simp
        · split
          · simp
          · simp
theorem c_sDf (s : ByteArray) (p : List Int × Int) (w : World) (hs : s.size ≤ 1048576) (hp : decFrF s = p) : Calls Tryz.prog 88 #[.string s] w fun e w' => ∃ v, e = .returned (.tuple #[v, .int .i64 p.2]) ∧ OwI 2 w' w.heap.size v p.1 ∧ Below w.heap.size w w' := by
  subst hp; exact c_sDecodeFrame s w hs
theorem c_iDf (s : ByteArray) (p : List Int × Int) (w : World) (hs : s.size ≤ 1048576) (hp : decFrF s = p) : Calls Tryz.prog 52 #[.string s] w fun e w' => ∃ v, e = .returned (.tuple #[v, .int .i64 p.2]) ∧ OwI 2 w' w.heap.size v p.1 ∧ Below w.heap.size w w' := by
  subst hp; exact c_iDecodeFrame s w hs
end Go.Proofs.YtpmflkoepnanoaaGreat
