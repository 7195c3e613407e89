/- FramesOf: the law. -/
import Derived.Test.YtopgjanpbfnlnaaGreatGc
namespace Go.Proofs.YtopgjanpbfnlnaaGreat
open Go.RowKit
theorem plF_len {s : ByteArray} : ∀ (k p : Nat) (acc : List Int), (plF s k p acc).1.length ≤ acc.length + k + 1
  | 0, p, acc => by unfold plF; split <;> simp
  | k + 1, p, acc => by
    unfold plF
    split
    · simp
    · have := plF_len (s := s) k (p + 2 + numS s p) (acc ++ [(p : Int)])
      simp at this
      omega
theorem placesF_len {s : ByteArray} : (placesF s).1.length ≤ 70000 := by
  unfold placesF
  split
  · have h := plF_len (s := s) (nch (numS s 6) (numS s 4)) 10 []
    rename_i h0
    obtain ⟨_, _, h1, h2, h3⟩ := infoF_ok h0
    have hk0 : nch (numS s 6) (numS s 4) ≤ 5000 := by unfold nch; exact Nat.le_trans (Nat.div_le_self _ _) (by omega)
    simp at h
    omega
  · simp
theorem c_iFr (s : ByteArray) (p : List Int × Int) (w : World) (hs : s.size ≤ 1048576) (hp : placesF s = p) : Calls Tryz.prog 21 #[.string s] w fun e w' => ∃ v, e = .returned (.tuple #[v, .int .i64 p.2]) ∧ OwI 2 w' w.heap.size v p.1 ∧ Below w.heap.size w w' := by
  subst hp; exact c_iFramesOf s w (by omega)
end Go.Proofs.YtopgjanpbfnlnaaGreat
