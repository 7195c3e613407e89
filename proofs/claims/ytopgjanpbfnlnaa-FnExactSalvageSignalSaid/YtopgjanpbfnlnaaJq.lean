/- SalvageSignal: the law. -/
import Derived.Test.YtopgjanpbfnlnaaJo
namespace Go.Proofs.Ytopgjanpbfnlnaa
open Go.RowKit
theorem Fr.gro {E : TypeId} {w w' : World} {lo hi : Nat} {v v2 : Value} {xs : List Int} (h : Fr E w lo hi v xs) (hg : w.grownBy w' v2.ownBlock) (hd : Dj v v2) : Fr E w' lo hi v xs := ⟨h.1.gro hg hd, h.2⟩
theorem slvF_len {s : ByteArray} : (slvF s).1.1.length ≤ 10000000000 ∧ (slvF s).1.2.length ≤ 10000000000 := by
  unfold slvF
  split
  · simp
  · exact salvF_len s
theorem cs_Sv (s : ByteArray) (p : (List Int × List Int) × Int) (w : World) (hs : s.size ≤ 1048576) (hp : slvF s = p) : Calls Try.prog 53 #[.string s] w fun e w' => ∃ v1 v2, e = .returned (.tuple #[v1, v2, .int .i64 p.2]) ∧ OwI 2 w' w.heap.size v1 p.1.1 ∧ OwI 2 w' w.heap.size v2 p.1.2 ∧ Dj v1 v2 ∧ Below w.heap.size w w' := by
  subst hp; exact c_sSalvageSignal s w hs
theorem ci_Sv (s : ByteArray) (p : (List Int × List Int) × Int) (w : World) (hs : s.size ≤ 1048576) (hp : slvF s = p) : Calls Try.prog 54 #[.string s] w fun e w' => ∃ v1 v2, e = .returned (.tuple #[v1, v2, .int .i64 p.2]) ∧ OwI 2 w' w.heap.size v1 p.1.1 ∧ OwI 2 w' w.heap.size v2 p.1.2 ∧ Dj v1 v2 ∧ Below w.heap.size w w' := by
  subst hp; exact c_iSalvageSignal s w hs
set_option maxHeartbeats 2000000 in
set_option maxRecDepth 100000 in
theorem law_SalvageSignal (s : ByteArray) (w : World) : Calls Try.prog 17 #[.string s] w fun e w' => e = .returned (.bool true) ∧ Below w.heap.size w w' := by
  by_cases hs : s.size ≤ 1048576
  · have hpl := slvF_len (s := s)
    generalize hp : slvF s = p at *
    obtain ⟨hp1, hp2⟩ := hpl
    have HP := hide hp; clear hp
    go_enter Try.func17, Try.ntmps17
    go_wp2_with fail
    refine (cs_Sv _ p _ hs HP.out).mono ?_; rintro e w1 ⟨va, vb, rfl, oa, ob, _, hb⟩
    have hs1 := hb.size
    have Fa1 := hide (Fr.born oa); clear oa
    have Fb1 := hide (Fr.born ob); clear ob
    have HB1 := hide hb; clear hb
    go_wp2_with fail
    refine (ci_Sv _ p _ hs HP.out).mono ?_; rintro e w2 ⟨vc, vd, rfl, oc, od, hdj, hb⟩
    have hs2 := hb.size
    have Fa2 := hide (Fa1.out.below hb (by omega)); clear Fa1
    have Fb2 := hide (Fb1.out.below hb (by omega)); clear Fb1
    have Fc2 := hide (Fr.born oc); clear oc
    have Fd2 := hide (Fr.born od); clear od
    have HB2 := hide (bthen HB1.out (by omega) hb); clear hb HB1
    have HDJ := hide hdj; clear hdj
    go_wp2_with fail
    refine (c_eqI _ _ p.1.1 _ Fc2.out.rd Fa2.out.rd).mono ?_; rintro e w3 ⟨rfl, hd⟩
    have hs3 := dr_size hd
    have HS3 := hide hs3; replace hs3 : w2.heap.size ≤ w3.heap.size := by omega
    have ht3 : w3.heap.size ≤ w2.heap.size := by have := HS3.out; omega
    have Fa3 := hide (Fa2.out.dr hd); clear Fa2
    have Fb3 := hide (Fb2.out.dr hd); clear Fb2
    have Fc3 := hide (Fc2.out.dr hd); clear Fc2
    have Fd3 := hide (Fd2.out.dr hd); clear Fd2
    have HB3 := hide (Dr.below HB2.out hd); clear hd HB2
    go_wp2_with fail
    refine (c_eqI _ _ p.1.2 _ Fd3.out.rd Fb3.out.rd).mono ?_; rintro e w4 ⟨rfl, hd⟩
    have hs4 := dr_size hd
    have HS4 := hide hs4; replace hs4 : w3.heap.size ≤ w4.heap.size := by omega
    have ht4 : w4.heap.size ≤ w3.heap.size := by have := HS4.out; omega
    have Fa4 := hide (Fa3.out.dr hd); clear Fa3
    have Fb4 := hide (Fb3.out.dr hd); clear Fb3
    have Fc4 := hide (Fc3.out.dr hd); clear Fc3
    have Fd4 := hide (Fd3.out.dr hd); clear Fd3
    have HB4 := hide (Dr.below HB3.out hd); clear hd HB3
    go_wp2_with fail
    refine (c_markInt64S _ _ _ p.1.1 1 _ Fc4.out.1 (by omega)).mono ?_; rintro e w5 ⟨rfl, om, hg⟩
    have hs5 := hg.size
    have Fa5 := hide (Fa4.out.other Fc4.out hg (by omega)); clear Fa4
    have Fb5 := hide (Fb4.out.other Fc4.out hg (by omega)); clear Fb4
    have Fd5 := hide (Fd4.out.gro hg HDJ.out.symm); clear Fd4
    have HB5 := hide (Fc4.out.below_mark HB4.out hg (by omega) (by omega)); clear HB4
    have Fc5 := hide (Fc4.out.mark om); clear Fc4 om hg
    go_wp2_with fail
    refine (c_markInt64S _ _ _ p.1.2 (1 + p.1.1.length) _ Fd5.out.1 (by omega)).mono ?_; rintro e w6 ⟨rfl, om, hg⟩
    have hs6 := hg.size
    have Fa6 := hide (Fa5.out.other Fd5.out hg (by omega)); clear Fa5
    have Fb6 := hide (Fb5.out.other Fd5.out hg (by omega)); clear Fb5
    have Fc6 := hide (Fc5.out.gro hg HDJ.out); clear Fc5
    have HB6 := hide (Fd5.out.below_mark HB5.out hg (by omega) (by omega)); clear HB5
    have Fd6 := hide (Fd5.out.mark om); clear Fd5 om hg
    go_wp2_with fail
    refine (c_heldI _ p.1.1.length 1 _ Fc6.out.rd (by omega)).mono ?_; rintro e _ ⟨rfl, rfl⟩
    go_wp2_with fail
    refine (c_heldI _ p.1.2.length (1 + p.1.1.length) _ Fd6.out.rd (by omega)).mono ?_; rintro e _ ⟨rfl, rfl⟩
    go_wp2_with fail
    refine (ci_Sv _ p _ hs HP.out).mono ?_; rintro e w7 ⟨ve, vf, rfl, oe, of, _, hb⟩
    have hs7 := hb.size
    have Fa7 := hide (Fa6.out.below hb (by omega)); clear Fa6
    have Fb7 := hide (Fb6.out.below hb (by omega)); clear Fb6
    have Fc7 := hide (Fc6.out.below hb (by omega)); clear Fc6
    have Fd7 := hide (Fd6.out.below hb (by omega)); clear Fd6
    have Fe7 := hide (Fr.born oe); clear oe
    have Ff7 := hide (Fr.born of); clear of
    have HB7 := hide (bthen HB6.out (by omega) hb); clear hb HB6
    go_wp2_with fail
    refine (c_eqI _ _ p.1.1 _ Fe7.out.rd Fa7.out.rd).mono ?_; rintro e w8 ⟨rfl, hd⟩
    have hs8 := dr_size hd
    have HS8 := hide hs8; replace hs8 : w7.heap.size ≤ w8.heap.size := by omega
    have ht8 : w8.heap.size ≤ w7.heap.size := by have := HS8.out; omega
    have Fa8 := hide (Fa7.out.dr hd); clear Fa7
    have Fb8 := hide (Fb7.out.dr hd); clear Fb7
    have Fc8 := hide (Fc7.out.dr hd); clear Fc7
    have Fd8 := hide (Fd7.out.dr hd); clear Fd7
    have Fe8 := hide (Fe7.out.dr hd); clear Fe7
    have Ff8 := hide (Ff7.out.dr hd); clear Ff7
    have HB8 := hide (Dr.below HB7.out hd); clear hd HB7
    go_wp2_with fail
    refine (c_eqI _ _ p.1.2 _ Ff8.out.rd Fb8.out.rd).mono ?_; rintro e w9 ⟨rfl, hd⟩
    have hs9 := dr_size hd
    have HS9 := hide hs9; replace hs9 : w8.heap.size ≤ w9.heap.size := by omega
    have ht9 : w9.heap.size ≤ w8.heap.size := by have := HS9.out; omega
    have Fa9 := hide (Fa8.out.dr hd); clear Fa8
    have Fb9 := hide (Fb8.out.dr hd); clear Fb8
    have Fc9 := hide (Fc8.out.dr hd); clear Fc8
    have Fd9 := hide (Fd8.out.dr hd); clear Fd8
    have Fe9 := hide (Fe8.out.dr hd); clear Fe8
    have Ff9 := hide (Ff8.out.dr hd); clear Ff8
    have HB9 := hide (Dr.below HB8.out hd); clear hd HB8
    go_wp2_with fail
    refine (c_heldI _ p.1.1.length 1 _ Fc9.out.rd (by omega)).mono ?_; rintro e _ ⟨rfl, rfl⟩
    go_wp2_with fail
    refine (c_heldI _ p.1.2.length (1 + p.1.1.length) _ Fd9.out.rd (by omega)).mono ?_; rintro e _ ⟨rfl, rfl⟩
    go_wp2
    go_ret
    exact ⟨rfl, HB9.out⟩
  · go_enter Try.func17, Try.ntmps17
    go_wp2
    go_ret
    exact ⟨rfl, Below.refl _ _⟩
end Go.Proofs.Ytopgjanpbfnlnaa
