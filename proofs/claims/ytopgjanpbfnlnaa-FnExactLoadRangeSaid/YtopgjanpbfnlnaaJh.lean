/- LoadSignal: the law. -/
import Derived.Test.YtopgjanpbfnlnaaJg
import Derived.Test.YtopgjanpbfnlnaaAc
namespace Go.Proofs.Ytopgjanpbfnlnaa
open Go.RowKit
theorem rngF_len {s : ByteArray} {fr n : Nat} : ∀ (c k : Nat) (acc : List Int), (rngF s fr n c k acc).1.length ≤ acc.length + 70000 * c
  | 0, _, acc => by simp [rngF]
  | c + 1, k, acc => by
    simp only [rngF]
    split
    · simp
    · have h1 := rngF_len (s := s) (fr := fr) (n := n) c (k + 1) (acc ++ partK s fr n k)
      have h2 := midL_len (frK s k).1 (fr - k * numS s 4) (min (frK s k).1.length (fr + n - k * numS s 4)) (frK s k).1.length
      have h3 := frK_bd s k
      rw [List.length_append] at h1
      have h4 : (partK s fr n k).length ≤ 70000 := by unfold partK; omega
      omega
theorem rangeF_len {s : ByteArray} {fr n : Nat} : (rangeF s fr n).1.length ≤ 70000 * (fr + n + 1) := by
  have h := rngF_len (s := s) (fr := fr) (n := n) (endK (numS s 4) fr n - fr / numS s 4) (fr / numS s 4) []
  have h2 : endK (numS s 4) fr n ≤ fr + n + 1 := by
    unfold endK
    split
    · have := Nat.div_le_self fr (numS s 4); omega
    · have := Nat.div_le_self (fr + n - 1) (numS s 4); omega
  have h3 : endK (numS s 4) fr n - fr / numS s 4 ≤ endK (numS s 4) fr n := Nat.sub_le _ _
  unfold rangeF
  simp only [List.length_nil] at h
  generalize endK (numS s 4) fr n - fr / numS s 4 = c at *
  omega
theorem ldSigF_len {s : ByteArray} : (ldSigF s).1.length ≤ 5000000000 := by
  unfold ldSigF
  split
  · simp
  · have h := rangeF_len (s := s) (fr := 0) (n := numS s 6)
    have h2 := numS_lt s 6
    omega
theorem ldRngF_len {s : ByteArray} {fr n : Int} : (ldRngF s fr n).1.length ≤ 5000000000 := by
  unfold ldRngF
  split
  · simp
  · split
    · simp
    · split
      · simp
      · rename_i h1 h2
        have h1' := inB_true.1 (by simpa using h1)
        have h2' := inB_true.1 (by simpa using h2)
        have h := rangeF_len (s := s) (fr := fr.toNat) (n := n.toNat)
        have h3 := numS_lt s 6
        omega
theorem cs_LoadSignal (s : ByteArray) (p : List Int × Int) (w : World) (hs : s.size ≤ 1048576) (hp : ldSigF s = p) : Calls Try.prog 43 #[.string s] w fun e w' => ∃ v, e = .returned (.tuple #[v, .int .i64 p.2]) ∧ OwI 2 w' w.heap.size v p.1 ∧ Below w.heap.size w w' := by
  subst hp; exact c_sLoadSignal s w hs
theorem ci_LoadSignal (s : ByteArray) (p : List Int × Int) (w : World) (hs : s.size ≤ 1048576) (hp : ldSigF s = p) : Calls Try.prog 44 #[.string s] w fun e w' => ∃ v, e = .returned (.tuple #[v, .int .i64 p.2]) ∧ OwI 2 w' w.heap.size v p.1 ∧ Below w.heap.size w w' := by
  subst hp; exact c_iLoadSignal s w hs
set_option maxHeartbeats 1000000 in
set_option maxRecDepth 100000 in
theorem law_LoadSignal (s : ByteArray) (w : World) : Calls Try.prog 13 #[.string s] w fun e w' => e = .returned (.bool true) ∧ Below w.heap.size w w' := by
  by_cases hs : s.size ≤ 1048576
  · have hpl : (ldSigF s).1.length ≤ 5000000000 := ldSigF_len
    generalize hp : ldSigF s = p at *
    have HP := hide hp; clear hp
    go_enter Try.func13, Try.ntmps13
    go_wp2_with fail
    refine (cs_LoadSignal _ p _ hs HP.out).mono ?_; rintro e w1 ⟨vw, rfl, ow, hb⟩
    have hs1 := hb.size
    have Fw1 := hide (Fr.born ow); clear ow
    have HB1 := hide hb; clear hb
    go_wp2_with fail
    refine (ci_LoadSignal _ p _ hs HP.out).mono ?_; rintro e w2 ⟨vg, rfl, og, hb⟩
    have hs2 := hb.size
    have Fw2 := hide (Fw1.out.below hb (by omega)); clear Fw1
    have Fg2 := hide (Fr.born og); clear og
    have HB2 := hide (bthen HB1.out (by omega) hb); clear hb HB1
    go_wp2_with fail
    refine (c_eqI _ _ p.1 _ Fg2.out.rd Fw2.out.rd).mono ?_; rintro e w3 ⟨rfl, hd⟩
    have hs3 := dr_size hd
    have HS3 := hide hs3; replace hs3 : w2.heap.size ≤ w3.heap.size := by omega
    have ht3 : w3.heap.size ≤ w2.heap.size := by have := HS3.out; omega
    have Fw3 := hide (Fw2.out.dr hd); clear Fw2
    have Fg3 := hide (Fg2.out.dr hd); clear Fg2
    have HB3 := hide (Dr.below HB2.out hd); clear hd HB2
    go_wp2_with fail
    refine (c_markInt64S _ _ _ p.1 1 _ Fg3.out.1 (by omega)).mono ?_; rintro e w4 ⟨rfl, om, hg⟩
    have hs4 := hg.size
    have Fw4 := hide (Fw3.out.other Fg3.out hg (by omega)); clear Fw3
    have HB4 := hide (Fg3.out.below_mark HB3.out hg (by omega) (by omega)); clear HB3
    have Fg4 := hide (Fg3.out.mark om); clear Fg3 om hg
    go_wp2_with fail
    refine (c_heldI _ p.1.length 1 _ Fg4.out.rd (by omega)).mono ?_; rintro e _ ⟨rfl, rfl⟩
    go_wp2_with fail
    refine (ci_LoadSignal _ p _ hs HP.out).mono ?_; rintro e w5 ⟨vh, rfl, oh, hb⟩
    have hs5 := hb.size
    have Fw5 := hide (Fw4.out.below hb (by omega)); clear Fw4
    have Fg5 := hide (Fg4.out.below hb (by omega)); clear Fg4
    have Fh5 := hide (Fr.born oh); clear oh
    have HB5 := hide (bthen HB4.out (by omega) hb); clear hb HB4
    go_wp2_with fail
    refine (c_eqI _ _ p.1 _ Fh5.out.rd Fw5.out.rd).mono ?_; rintro e w6 ⟨rfl, hd⟩
    have hs6 := dr_size hd
    have HS6 := hide hs6; replace hs6 : w5.heap.size ≤ w6.heap.size := by omega
    have ht6 : w6.heap.size ≤ w5.heap.size := by have := HS6.out; omega
    have Fw6 := hide (Fw5.out.dr hd); clear Fw5
    have Fg6 := hide (Fg5.out.dr hd); clear Fg5
    have Fh6 := hide (Fh5.out.dr hd); clear Fh5
    have HB6 := hide (Dr.below HB5.out hd); clear hd HB5
    go_wp2_with fail
    refine (c_heldI _ p.1.length 1 _ Fg6.out.rd (by omega)).mono ?_; rintro e _ ⟨rfl, rfl⟩
    go_wp2
    go_ret
    exact ⟨rfl, HB6.out⟩
  · go_enter Try.func13, Try.ntmps13
    go_wp2
    go_ret
    exact ⟨rfl, Below.refl _ _⟩
end Go.Proofs.Ytopgjanpbfnlnaa
