/- Contracts: notes, both sides. Laws for data that is marked cell by cell. No program is named here. Growing a slice of data of the call's own, one element at a time. No program is named here. One element of a slice of the call's own turned. No program is named here. copy between slices whose elements take several cells. No program is named here. -/
import Derived.Test.YteiflbhcehajkaaGreatDoorQAoExactDeskText
import Derived.Deep.RegionHeld3
import Derived.Test.YteiflbhcehajkaaGreatDoorQAeExactDeskText
import Derived.Deep.RegionHeldLaw
import Derived.Laws.CopyOwn
import Derived.Lib.Overlaps
import Derived.Lib.AppendZeros
set_option linter.unusedVariables false
set_option linter.unusedSimpArgs false
section
namespace Go.Proofs.YteiflbhcehajkaaGreatDoor
open Go.RowKit
theorem NoteOk.iff {n : GNote} : NoteOk n ↔ beatOk n.fAt ∧ beatOk n.fLength ∧ n.fLength.fNum ≠ 0 ∧ (addFr n.fAt n.fLength).2 = 0 ∧ inB n.fKey 0 127 = true ∧ inB n.fVelocity 1 127 = true ∧ inB n.fChannel 0 15 = true :=
  ⟨fun h => ⟨h.1, h.2, h.3, h.4, h.5, h.6, h.7⟩, fun ⟨a, b, c, d, e, f, g⟩ => ⟨a, b, c, d, e, f, g⟩⟩
set_option maxHeartbeats 2000000 in
set_option maxRecDepth 20000 in
theorem c_isNote (x : GNote) (cs : List Value) (w : World) (h : T.rds w x.fs cs) : Calls Tryz.prog 191 #[.agg cs.toArray] w fun e w' => e = .returned (.bool (tf (NoteOk x))) ∧ Below w.heap.size w w' := by
  obtain rfl := GNote.rd_open h
  clear h
  have HB0 := hide (show Below w.heap.size w (w.alloc (.cells #[.int .i64 x.fAt.fNum, .int .i64 x.fAt.fDen, .int .i64 x.fLength.fNum, .int .i64 x.fLength.fDen, .int .i64 x.fKey, .int .i64 x.fVelocity, .int .i64 x.fChannel] 104)) from (Below.refl _ _).alloc (Nat.le_refl _) _)
  have HK0 := hide (Bk.born w 104 #[.int .i64 x.fAt.fNum, .int .i64 x.fAt.fDen, .int .i64 x.fLength.fNum, .int .i64 x.fLength.fDen, .int .i64 x.fKey, .int .i64 x.fVelocity, .int .i64 x.fChannel])
  obtain ⟨⟨sn, sd⟩, sc, hs⟩ : ∃ f c, addFr x.fAt x.fLength = (f, c) := ⟨_, _, rfl⟩
  have HN := hide (@NoteOk.iff x)
  have CA := hide (fun W => c_AddFrac x.fAt x.fLength W)
  rw [hs] at HN CA; clear hs; dsimp only at CA
  by_cases h1 : beatOk x.fAt
  rotate_left
  ·
    have q1 := tf_no h1; have N_ := hide h1; clear h1
    go_enter Tryz.func191, Tryz.ntmps191
    go_wp2_with (first | (go_at_call_of 145 (Value.agg #[.int .i64 x.fAt.fNum, .int .i64 x.fAt.fDen]); refine (c_isBeat x.fAt _ _ GFrac.rd_mk).mono ?_; rintro e w1 ⟨rfl, hb⟩; rw [q1]; have HB1 := hide (bthen HB0.out HB0.out.size hb); have HK1 := hide (HK0.out.below hb HK0.out.lt); have ka := HK1.out.cell; have la := HK1.out.lt; clear hb) | (go_at_call_of 145 (Value.agg #[.int .i64 x.fLength.fNum, .int .i64 x.fLength.fDen]); refine (c_isBeat x.fLength _ _ GFrac.rd_mk).mono ?_; rintro e w2 ⟨rfl, hb⟩; rw [q2]; have HB2 := hide (bthen HB1.out HB1.out.size hb); have HK2 := hide (HK1.out.below hb HK1.out.lt); clear ka la; have ka := HK2.out.cell; have la := HK2.out.lt; clear hb) | (go_at_call 195; refine (CA.out _).mono ?_; rintro e w3 ⟨rfl, hb⟩; have HB3 := hide (bthen HB2.out HB2.out.size hb); have HK3 := hide (HK2.out.below hb HK2.out.lt); clear ka la; have ka := HK3.out.cell; have la := HK3.out.lt; clear hb) | (go_at_call 220; refine (c_isKey _ _).mono ?_; rintro e w' ⟨rfl, rfl⟩) | (go_at_call 70; refine (c_within _ _ _ _).mono ?_; rintro e w' ⟨rfl, rfl⟩))
    go_ret
    exact ⟨ret_bool (tf_no (fun h => N_.out ((HN.out.1 h).1))).symm, by have hb := HB1.out; exact (by repeat (first | with_reducible exact Below.refl _ _ | with_reducible assumption | with_reducible refine Below.setCell ?_ (by first | omega | (simp; done) | (simp; omega)) _ | with_reducible refine Below.alloc ?_ (by first | omega | (simp; done) | (simp; omega)) _ | with_reducible refine Below.drew ?_ | with_reducible refine below_drewN ?_ _ | exact Below.refl _ _ | assumption | refine Below.drew ?_ | refine below_drewN ?_ _ | refine Below.alloc ?_ (by first | omega | (simp; done) | (simp; omega)) _ | refine Below.setCell ?_ (by first | omega | (simp; done) | (simp; omega)) _))⟩
  have q1 := tf_yes h1
  by_cases h2 : beatOk x.fLength
  rotate_left
  ·
    have q2 := tf_no h2; have N_ := hide h2; clear h2
    go_enter Tryz.func191, Tryz.ntmps191
    go_wp2_with (first | (go_at_call_of 145 (Value.agg #[.int .i64 x.fAt.fNum, .int .i64 x.fAt.fDen]); refine (c_isBeat x.fAt _ _ GFrac.rd_mk).mono ?_; rintro e w1 ⟨rfl, hb⟩; rw [q1]; have HB1 := hide (bthen HB0.out HB0.out.size hb); have HK1 := hide (HK0.out.below hb HK0.out.lt); have ka := HK1.out.cell; have la := HK1.out.lt; clear hb) | (go_at_call_of 145 (Value.agg #[.int .i64 x.fLength.fNum, .int .i64 x.fLength.fDen]); refine (c_isBeat x.fLength _ _ GFrac.rd_mk).mono ?_; rintro e w2 ⟨rfl, hb⟩; rw [q2]; have HB2 := hide (bthen HB1.out HB1.out.size hb); have HK2 := hide (HK1.out.below hb HK1.out.lt); clear ka la; have ka := HK2.out.cell; have la := HK2.out.lt; clear hb) | (go_at_call 195; refine (CA.out _).mono ?_; rintro e w3 ⟨rfl, hb⟩; have HB3 := hide (bthen HB2.out HB2.out.size hb); have HK3 := hide (HK2.out.below hb HK2.out.lt); clear ka la; have ka := HK3.out.cell; have la := HK3.out.lt; clear hb) | (go_at_call 220; refine (c_isKey _ _).mono ?_; rintro e w' ⟨rfl, rfl⟩) | (go_at_call 70; refine (c_within _ _ _ _).mono ?_; rintro e w' ⟨rfl, rfl⟩))
    go_ret
    exact ⟨ret_bool (tf_no (fun h => N_.out ((HN.out.1 h).2.1))).symm, by have hb := HB2.out; exact (by repeat (first | with_reducible exact Below.refl _ _ | with_reducible assumption | with_reducible refine Below.setCell ?_ (by first | omega | (simp; done) | (simp; omega)) _ | with_reducible refine Below.alloc ?_ (by first | omega | (simp; done) | (simp; omega)) _ | with_reducible refine Below.drew ?_ | with_reducible refine below_drewN ?_ _ | exact Below.refl _ _ | assumption | refine Below.drew ?_ | refine below_drewN ?_ _ | refine Below.alloc ?_ (by first | omega | (simp; done) | (simp; omega)) _ | refine Below.setCell ?_ (by first | omega | (simp; done) | (simp; omega)) _))⟩
  have q2 := tf_yes h2
  by_cases h3 : x.fLength.fNum ≠ 0
  rotate_left
  ·
    have q3 : (x.fLength.fNum == 0) = true := beqI_t (Classical.not_not.1 h3); have N_ := hide h3; clear h3
    go_enter Tryz.func191, Tryz.ntmps191
    go_wp2_with (first | (go_at_call_of 145 (Value.agg #[.int .i64 x.fAt.fNum, .int .i64 x.fAt.fDen]); refine (c_isBeat x.fAt _ _ GFrac.rd_mk).mono ?_; rintro e w1 ⟨rfl, hb⟩; rw [q1]; have HB1 := hide (bthen HB0.out HB0.out.size hb); have HK1 := hide (HK0.out.below hb HK0.out.lt); have ka := HK1.out.cell; have la := HK1.out.lt; clear hb) | (go_at_call_of 145 (Value.agg #[.int .i64 x.fLength.fNum, .int .i64 x.fLength.fDen]); refine (c_isBeat x.fLength _ _ GFrac.rd_mk).mono ?_; rintro e w2 ⟨rfl, hb⟩; rw [q2]; have HB2 := hide (bthen HB1.out HB1.out.size hb); have HK2 := hide (HK1.out.below hb HK1.out.lt); clear ka la; have ka := HK2.out.cell; have la := HK2.out.lt; clear hb) | (go_at_call 195; refine (CA.out _).mono ?_; rintro e w3 ⟨rfl, hb⟩; have HB3 := hide (bthen HB2.out HB2.out.size hb); have HK3 := hide (HK2.out.below hb HK2.out.lt); clear ka la; have ka := HK3.out.cell; have la := HK3.out.lt; clear hb) | (go_at_call 220; refine (c_isKey _ _).mono ?_; rintro e w' ⟨rfl, rfl⟩) | (go_at_call 70; refine (c_within _ _ _ _).mono ?_; rintro e w' ⟨rfl, rfl⟩))
    go_ret
    exact ⟨ret_bool (tf_no (fun h => N_.out ((HN.out.1 h).2.2.1))).symm, by have hb := HB2.out; exact (by repeat (first | with_reducible exact Below.refl _ _ | with_reducible assumption | with_reducible refine Below.setCell ?_ (by first | omega | (simp; done) | (simp; omega)) _ | with_reducible refine Below.alloc ?_ (by first | omega | (simp; done) | (simp; omega)) _ | with_reducible refine Below.drew ?_ | with_reducible refine below_drewN ?_ _ | exact Below.refl _ _ | assumption | refine Below.drew ?_ | refine below_drewN ?_ _ | refine Below.alloc ?_ (by first | omega | (simp; done) | (simp; omega)) _ | refine Below.setCell ?_ (by first | omega | (simp; done) | (simp; omega)) _))⟩
  have q3 : (x.fLength.fNum == 0) = false := beqI_f h3
  by_cases h4 : sc = 0
  rotate_left
  ·
    have q4 : (sc == 0) = false := beqI_f h4; have N_ := hide h4; clear h4
    go_enter Tryz.func191, Tryz.ntmps191
    go_wp2_with (first | (go_at_call_of 145 (Value.agg #[.int .i64 x.fAt.fNum, .int .i64 x.fAt.fDen]); refine (c_isBeat x.fAt _ _ GFrac.rd_mk).mono ?_; rintro e w1 ⟨rfl, hb⟩; rw [q1]; have HB1 := hide (bthen HB0.out HB0.out.size hb); have HK1 := hide (HK0.out.below hb HK0.out.lt); have ka := HK1.out.cell; have la := HK1.out.lt; clear hb) | (go_at_call_of 145 (Value.agg #[.int .i64 x.fLength.fNum, .int .i64 x.fLength.fDen]); refine (c_isBeat x.fLength _ _ GFrac.rd_mk).mono ?_; rintro e w2 ⟨rfl, hb⟩; rw [q2]; have HB2 := hide (bthen HB1.out HB1.out.size hb); have HK2 := hide (HK1.out.below hb HK1.out.lt); clear ka la; have ka := HK2.out.cell; have la := HK2.out.lt; clear hb) | (go_at_call 195; refine (CA.out _).mono ?_; rintro e w3 ⟨rfl, hb⟩; have HB3 := hide (bthen HB2.out HB2.out.size hb); have HK3 := hide (HK2.out.below hb HK2.out.lt); clear ka la; have ka := HK3.out.cell; have la := HK3.out.lt; clear hb) | (go_at_call 220; refine (c_isKey _ _).mono ?_; rintro e w' ⟨rfl, rfl⟩) | (go_at_call 70; refine (c_within _ _ _ _).mono ?_; rintro e w' ⟨rfl, rfl⟩))
    go_ret
    exact ⟨ret_bool (tf_no (fun h => N_.out ((HN.out.1 h).2.2.2.1))).symm, by have hb := HB3.out; exact (by repeat (first | with_reducible exact Below.refl _ _ | with_reducible assumption | with_reducible refine Below.setCell ?_ (by first | omega | (simp; done) | (simp; omega)) _ | with_reducible refine Below.alloc ?_ (by first | omega | (simp; done) | (simp; omega)) _ | with_reducible refine Below.drew ?_ | with_reducible refine below_drewN ?_ _ | exact Below.refl _ _ | assumption | refine Below.drew ?_ | refine below_drewN ?_ _ | refine Below.alloc ?_ (by first | omega | (simp; done) | (simp; omega)) _ | refine Below.setCell ?_ (by first | omega | (simp; done) | (simp; omega)) _))⟩
  have q4 : (sc == 0) = true := beqI_t h4; have H4 := hide h4; clear h4
  by_cases h5 : inB x.fKey 0 127 = true
  rotate_left
  ·
    have b_ : inB x.fKey 0 127 = false := (by simpa using h5); have N_ := hide h5; clear h5
    go_enter Tryz.func191, Tryz.ntmps191
    go_wp2_with (first | (go_at_call_of 145 (Value.agg #[.int .i64 x.fAt.fNum, .int .i64 x.fAt.fDen]); refine (c_isBeat x.fAt _ _ GFrac.rd_mk).mono ?_; rintro e w1 ⟨rfl, hb⟩; rw [q1]; have HB1 := hide (bthen HB0.out HB0.out.size hb); have HK1 := hide (HK0.out.below hb HK0.out.lt); have ka := HK1.out.cell; have la := HK1.out.lt; clear hb) | (go_at_call_of 145 (Value.agg #[.int .i64 x.fLength.fNum, .int .i64 x.fLength.fDen]); refine (c_isBeat x.fLength _ _ GFrac.rd_mk).mono ?_; rintro e w2 ⟨rfl, hb⟩; rw [q2]; have HB2 := hide (bthen HB1.out HB1.out.size hb); have HK2 := hide (HK1.out.below hb HK1.out.lt); clear ka la; have ka := HK2.out.cell; have la := HK2.out.lt; clear hb) | (go_at_call 195; refine (CA.out _).mono ?_; rintro e w3 ⟨rfl, hb⟩; have HB3 := hide (bthen HB2.out HB2.out.size hb); have HK3 := hide (HK2.out.below hb HK2.out.lt); clear ka la; have ka := HK3.out.cell; have la := HK3.out.lt; clear hb) | (go_at_call 220; refine (c_isKey _ _).mono ?_; rintro e w' ⟨rfl, rfl⟩) | (go_at_call 70; refine (c_within _ _ _ _).mono ?_; rintro e w' ⟨rfl, rfl⟩))
    go_ret
    exact ⟨ret_bool (tf_no (fun h => N_.out ((HN.out.1 h).2.2.2.2.1))).symm, by have hb := HB3.out; exact (by repeat (first | with_reducible exact Below.refl _ _ | with_reducible assumption | with_reducible refine Below.setCell ?_ (by first | omega | (simp; done) | (simp; omega)) _ | with_reducible refine Below.alloc ?_ (by first | omega | (simp; done) | (simp; omega)) _ | with_reducible refine Below.drew ?_ | with_reducible refine below_drewN ?_ _ | exact Below.refl _ _ | assumption | refine Below.drew ?_ | refine below_drewN ?_ _ | refine Below.alloc ?_ (by first | omega | (simp; done) | (simp; omega)) _ | refine Below.setCell ?_ (by first | omega | (simp; done) | (simp; omega)) _))⟩
  skip
  by_cases h6 : inB x.fVelocity 1 127 = true
  rotate_left
  ·
    have b_ : inB x.fVelocity 1 127 = false := (by simpa using h6); have N_ := hide h6; clear h6
    go_enter Tryz.func191, Tryz.ntmps191
    go_wp2_with (first | (go_at_call_of 145 (Value.agg #[.int .i64 x.fAt.fNum, .int .i64 x.fAt.fDen]); refine (c_isBeat x.fAt _ _ GFrac.rd_mk).mono ?_; rintro e w1 ⟨rfl, hb⟩; rw [q1]; have HB1 := hide (bthen HB0.out HB0.out.size hb); have HK1 := hide (HK0.out.below hb HK0.out.lt); have ka := HK1.out.cell; have la := HK1.out.lt; clear hb) | (go_at_call_of 145 (Value.agg #[.int .i64 x.fLength.fNum, .int .i64 x.fLength.fDen]); refine (c_isBeat x.fLength _ _ GFrac.rd_mk).mono ?_; rintro e w2 ⟨rfl, hb⟩; rw [q2]; have HB2 := hide (bthen HB1.out HB1.out.size hb); have HK2 := hide (HK1.out.below hb HK1.out.lt); clear ka la; have ka := HK2.out.cell; have la := HK2.out.lt; clear hb) | (go_at_call 195; refine (CA.out _).mono ?_; rintro e w3 ⟨rfl, hb⟩; have HB3 := hide (bthen HB2.out HB2.out.size hb); have HK3 := hide (HK2.out.below hb HK2.out.lt); clear ka la; have ka := HK3.out.cell; have la := HK3.out.lt; clear hb) | (go_at_call 220; refine (c_isKey _ _).mono ?_; rintro e w' ⟨rfl, rfl⟩) | (go_at_call 70; refine (c_within _ _ _ _).mono ?_; rintro e w' ⟨rfl, rfl⟩))
    go_ret
    exact ⟨ret_bool (tf_no (fun h => N_.out ((HN.out.1 h).2.2.2.2.2.1))).symm, by have hb := HB3.out; exact (by repeat (first | with_reducible exact Below.refl _ _ | with_reducible assumption | with_reducible refine Below.setCell ?_ (by first | omega | (simp; done) | (simp; omega)) _ | with_reducible refine Below.alloc ?_ (by first | omega | (simp; done) | (simp; omega)) _ | with_reducible refine Below.drew ?_ | with_reducible refine below_drewN ?_ _ | exact Below.refl _ _ | assumption | refine Below.drew ?_ | refine below_drewN ?_ _ | refine Below.alloc ?_ (by first | omega | (simp; done) | (simp; omega)) _ | refine Below.setCell ?_ (by first | omega | (simp; done) | (simp; omega)) _))⟩
  skip
  by_cases h7 : inB x.fChannel 0 15 = true
  rotate_left
  ·
    have b_ : inB x.fChannel 0 15 = false := (by simpa using h7); have N_ := hide h7; clear h7
    go_enter Tryz.func191, Tryz.ntmps191
    go_wp2_with (first | (go_at_call_of 145 (Value.agg #[.int .i64 x.fAt.fNum, .int .i64 x.fAt.fDen]); refine (c_isBeat x.fAt _ _ GFrac.rd_mk).mono ?_; rintro e w1 ⟨rfl, hb⟩; rw [q1]; have HB1 := hide (bthen HB0.out HB0.out.size hb); have HK1 := hide (HK0.out.below hb HK0.out.lt); have ka := HK1.out.cell; have la := HK1.out.lt; clear hb) | (go_at_call_of 145 (Value.agg #[.int .i64 x.fLength.fNum, .int .i64 x.fLength.fDen]); refine (c_isBeat x.fLength _ _ GFrac.rd_mk).mono ?_; rintro e w2 ⟨rfl, hb⟩; rw [q2]; have HB2 := hide (bthen HB1.out HB1.out.size hb); have HK2 := hide (HK1.out.below hb HK1.out.lt); clear ka la; have ka := HK2.out.cell; have la := HK2.out.lt; clear hb) | (go_at_call 195; refine (CA.out _).mono ?_; rintro e w3 ⟨rfl, hb⟩; have HB3 := hide (bthen HB2.out HB2.out.size hb); have HK3 := hide (HK2.out.below hb HK2.out.lt); clear ka la; have ka := HK3.out.cell; have la := HK3.out.lt; clear hb) | (go_at_call 220; refine (c_isKey _ _).mono ?_; rintro e w' ⟨rfl, rfl⟩) | (go_at_call 70; refine (c_within _ _ _ _).mono ?_; rintro e w' ⟨rfl, rfl⟩))
    go_ret
    exact ⟨ret_bool (tf_no (fun h => N_.out ((HN.out.1 h).2.2.2.2.2.2))).symm, by have hb := HB3.out; exact (by repeat (first | with_reducible exact Below.refl _ _ | with_reducible assumption | with_reducible refine Below.setCell ?_ (by first | omega | (simp; done) | (simp; omega)) _ | with_reducible refine Below.alloc ?_ (by first | omega | (simp; done) | (simp; omega)) _ | with_reducible refine Below.drew ?_ | with_reducible refine below_drewN ?_ _ | exact Below.refl _ _ | assumption | refine Below.drew ?_ | refine below_drewN ?_ _ | refine Below.alloc ?_ (by first | omega | (simp; done) | (simp; omega)) _ | refine Below.setCell ?_ (by first | omega | (simp; done) | (simp; omega)) _))⟩
  skip
  have HY := hide (HN.out.2 ⟨h1, h2, h3, H4.out, h5, h6, h7⟩); clear h1 h2 h3
  go_enter Tryz.func191, Tryz.ntmps191
  go_wp2_with (first | (go_at_call_of 145 (Value.agg #[.int .i64 x.fAt.fNum, .int .i64 x.fAt.fDen]); refine (c_isBeat x.fAt _ _ GFrac.rd_mk).mono ?_; rintro e w1 ⟨rfl, hb⟩; rw [q1]; have HB1 := hide (bthen HB0.out HB0.out.size hb); have HK1 := hide (HK0.out.below hb HK0.out.lt); have ka := HK1.out.cell; have la := HK1.out.lt; clear hb) | (go_at_call_of 145 (Value.agg #[.int .i64 x.fLength.fNum, .int .i64 x.fLength.fDen]); refine (c_isBeat x.fLength _ _ GFrac.rd_mk).mono ?_; rintro e w2 ⟨rfl, hb⟩; rw [q2]; have HB2 := hide (bthen HB1.out HB1.out.size hb); have HK2 := hide (HK1.out.below hb HK1.out.lt); clear ka la; have ka := HK2.out.cell; have la := HK2.out.lt; clear hb) | (go_at_call 195; refine (CA.out _).mono ?_; rintro e w3 ⟨rfl, hb⟩; have HB3 := hide (bthen HB2.out HB2.out.size hb); have HK3 := hide (HK2.out.below hb HK2.out.lt); clear ka la; have ka := HK3.out.cell; have la := HK3.out.lt; clear hb) | (go_at_call 220; refine (c_isKey _ _).mono ?_; rintro e w' ⟨rfl, rfl⟩) | (go_at_call 70; refine (c_within _ _ _ _).mono ?_; rintro e w' ⟨rfl, rfl⟩))
  go_ret
  exact ⟨ret_bool (tf_yes HY.out).symm, by have hb := HB3.out; exact (by repeat (first | with_reducible exact Below.refl _ _ | with_reducible assumption | with_reducible refine Below.setCell ?_ (by first | omega | (simp; done) | (simp; omega)) _ | with_reducible refine Below.alloc ?_ (by first | omega | (simp; done) | (simp; omega)) _ | with_reducible refine Below.drew ?_ | with_reducible refine below_drewN ?_ _ | exact Below.refl _ _ | assumption | refine Below.drew ?_ | refine below_drewN ?_ _ | refine Below.alloc ?_ (by first | omega | (simp; done) | (simp; omega)) _ | refine Below.setCell ?_ (by first | omega | (simp; done) | (simp; omega)) _))⟩
set_option maxHeartbeats 1000000 in
set_option maxRecDepth 20000 in
theorem c_compareNotes (x y : GNote) (w : World) (hx : NoteOk x) (hy : NoteOk y) : Calls Tryz.prog 144 #[.agg #[.int .i64 x.fAt.fNum, .int .i64 x.fAt.fDen, .int .i64 x.fLength.fNum, .int .i64 x.fLength.fDen, .int .i64 x.fKey, .int .i64 x.fVelocity, .int .i64 x.fChannel], .agg #[.int .i64 y.fAt.fNum, .int .i64 y.fAt.fDen, .int .i64 y.fLength.fNum, .int .i64 y.fLength.fDen, .int .i64 y.fKey, .int .i64 y.fVelocity, .int .i64 y.fChannel]] w fun e w' => e = .returned (.int .i64 (cmpNote x y)) ∧ Below w.heap.size w w' := by
  have k1 := inB_iff.1 hx.channel; have k2 := inB_iff.1 hy.channel; have k3 := inB_iff.1 hx.key; have k4 := inB_iff.1 hy.key
  have e1 : IntKind.i64.wrap (x.fChannel - y.fChannel) = x.fChannel - y.fChannel := IntWalk.i64_in _ (by omega)
  have e2 : IntKind.i64.wrap (x.fKey - y.fKey) = x.fKey - y.fKey := IntWalk.i64_in _ (by omega)
  obtain ⟨cc, hcc⟩ : ∃ cc, cmpFr x.fAt y.fAt = cc := ⟨_, rfl⟩
  have HC := hide (show cmpNote x y = if cc ≠ 0 then cc else if x.fChannel ≠ y.fChannel then x.fChannel - y.fChannel else x.fKey - y.fKey by unfold cmpNote; rw [hcc])
  have CP := hide (fun W => (by have := c_compare x.fAt y.fAt W hx.at_.1 hy.at_.1; rw [hcc] at this; exact this : Calls Tryz.prog 146 #[.agg #[.int .i64 x.fAt.fNum, .int .i64 x.fAt.fDen], .agg #[.int .i64 y.fAt.fNum, .int .i64 y.fAt.fDen]] W fun e w' => e = .returned (.int .i64 cc) ∧ Below W.heap.size W w'))
  clear hcc k1 k2 k3 k4 hx hy
  have HB0 := hide (show Below w.heap.size w ((w.alloc (.cells #[.int .i64 x.fAt.fNum, .int .i64 x.fAt.fDen, .int .i64 x.fLength.fNum, .int .i64 x.fLength.fDen, .int .i64 x.fKey, .int .i64 x.fVelocity, .int .i64 x.fChannel] 104)).alloc (.cells #[.int .i64 y.fAt.fNum, .int .i64 y.fAt.fDen, .int .i64 y.fLength.fNum, .int .i64 y.fLength.fDen, .int .i64 y.fKey, .int .i64 y.fVelocity, .int .i64 y.fChannel] 104)) from (((Below.refl w.heap.size w).alloc (Nat.le_refl _) (.cells #[.int .i64 x.fAt.fNum, .int .i64 x.fAt.fDen, .int .i64 x.fLength.fNum, .int .i64 x.fLength.fDen, .int .i64 x.fKey, .int .i64 x.fVelocity, .int .i64 x.fChannel] 104)).alloc (by simp) (.cells #[.int .i64 y.fAt.fNum, .int .i64 y.fAt.fDen, .int .i64 y.fLength.fNum, .int .i64 y.fLength.fDen, .int .i64 y.fKey, .int .i64 y.fVelocity, .int .i64 y.fChannel] 104)))
  have HX0 := hide ((Bk.born w 104 #[.int .i64 x.fAt.fNum, .int .i64 x.fAt.fDen, .int .i64 x.fLength.fNum, .int .i64 x.fLength.fDen, .int .i64 x.fKey, .int .i64 x.fVelocity, .int .i64 x.fChannel]).alloc (.cells #[.int .i64 y.fAt.fNum, .int .i64 y.fAt.fDen, .int .i64 y.fLength.fNum, .int .i64 y.fLength.fDen, .int .i64 y.fKey, .int .i64 y.fVelocity, .int .i64 y.fChannel] 104)); have HY0 := hide (Bk.born1' w (.cells #[.int .i64 x.fAt.fNum, .int .i64 x.fAt.fDen, .int .i64 x.fLength.fNum, .int .i64 x.fLength.fDen, .int .i64 x.fKey, .int .i64 x.fVelocity, .int .i64 x.fChannel] 104) 104 #[.int .i64 y.fAt.fNum, .int .i64 y.fAt.fDen, .int .i64 y.fLength.fNum, .int .i64 y.fLength.fDen, .int .i64 y.fKey, .int .i64 y.fVelocity, .int .i64 y.fChannel])
  by_cases c1 : cc = 0
  rotate_left
  ·
    have q1 : (cc != 0) = true := bneI_t c1
    have C1 := hide c1; clear c1
    go_enter Tryz.func144, Tryz.ntmps144
    go_wp2_with (go_at_call 146; refine (CP.out _).mono ?_; rintro e w1 ⟨rfl, hb⟩; have HB1 := hide (bthen HB0.out HB0.out.size hb); have HX1 := hide (HX0.out.below hb HX0.out.lt); have HY1 := hide (HY0.out.below hb HY0.out.lt); have kx := HX1.out.cell; have lx := HX1.out.lt; have ky := HY1.out.cell; have ly := HY1.out.lt; clear hb)
    go_ret
    exact ⟨ret_int (by rw [HC.out]; rw [if_pos C1.out]), HB1.out⟩
  have q1 : (cc != 0) = false := bneI_f c1; have C1 := hide c1; clear c1
  by_cases c2 : x.fChannel = y.fChannel
  rotate_left
  ·
    have q2 : (x.fChannel != y.fChannel) = true := bneI_t c2
    have C2 := hide c2; clear c2
    go_enter Tryz.func144, Tryz.ntmps144
    go_wp2_with (go_at_call 146; refine (CP.out _).mono ?_; rintro e w1 ⟨rfl, hb⟩; have HB1 := hide (bthen HB0.out HB0.out.size hb); have HX1 := hide (HX0.out.below hb HX0.out.lt); have HY1 := hide (HY0.out.below hb HY0.out.lt); have kx := HX1.out.cell; have lx := HX1.out.lt; have ky := HY1.out.cell; have ly := HY1.out.lt; clear hb)
    go_ret
    exact ⟨ret_int (by rw [HC.out]; rw [if_neg (fun h => h C1.out), if_pos C2.out]), HB1.out⟩
  have q2 : (x.fChannel != y.fChannel) = false := bneI_f c2
  have C2 := hide c2; clear c2
  go_enter Tryz.func144, Tryz.ntmps144
  go_wp2_with (go_at_call 146; refine (CP.out _).mono ?_; rintro e w1 ⟨rfl, hb⟩; have HB1 := hide (bthen HB0.out HB0.out.size hb); have HX1 := hide (HX0.out.below hb HX0.out.lt); have HY1 := hide (HY0.out.below hb HY0.out.lt); have kx := HX1.out.cell; have lx := HX1.out.lt; have ky := HY1.out.cell; have ly := HY1.out.lt; clear hb)
  go_ret
  exact ⟨ret_int (by rw [HC.out]; rw [if_neg (fun h => h C1.out), if_neg (fun h => h C2.out)]), HB1.out⟩
set_option maxHeartbeats 1000000 in
set_option maxRecDepth 20000 in
theorem c_l18Sum (x y : GFrac) (w : World) : Calls Tryz.prog 187 #[.agg #[.int .i64 x.fNum, .int .i64 x.fDen], .agg #[.int .i64 y.fNum, .int .i64 y.fDen]] w fun e w' => e = .returned (.tuple #[.agg #[.int .i64 (addFr x y).1.fNum, .int .i64 (addFr x y).1.fDen], .bool (decide ((addFr x y).2 = 0))]) ∧ Below w.heap.size w w' := by
  obtain ⟨⟨sn, sd⟩, sc, hs⟩ : ∃ f c, addFr x y = (f, c) := ⟨_, _, rfl⟩
  have CA := hide (fun W => c_sAddFrac x y W)
  rw [hs] at CA ⊢; clear hs; dsimp only at CA ⊢
  have HB0 := hide (show Below w.heap.size w (((w.alloc (.cells #[.int .i64 x.fNum, .int .i64 x.fDen] 64)).alloc (.cells #[.int .i64 y.fNum, .int .i64 y.fDen] 64)).alloc (.cells #[.int .i64 0, .int .i64 0] 64)) from ((((Below.refl w.heap.size w).alloc (Nat.le_refl _) (.cells #[.int .i64 x.fNum, .int .i64 x.fDen] 64)).alloc (by simp) (.cells #[.int .i64 y.fNum, .int .i64 y.fDen] 64)).alloc (by simp; omega) (.cells #[.int .i64 0, .int .i64 0] 64)))
  have HK0 : Sec (Bk (((w.alloc (.cells #[.int .i64 x.fNum, .int .i64 x.fDen] 64)).alloc (.cells #[.int .i64 y.fNum, .int .i64 y.fDen] 64)).alloc (.cells #[.int .i64 0, .int .i64 0] 64)) (w.heap.size + 2) 64 #[.int .i64 0, .int .i64 0]) := hide (Bk.born2 w (.cells #[.int .i64 x.fNum, .int .i64 x.fDen] 64) (.cells #[.int .i64 y.fNum, .int .i64 y.fDen] 64) 64 #[.int .i64 0, .int .i64 0])
  by_cases h0 : sc = 0
  ·
    have q0 : (sc == 0) = true := beqI_t h0; have q1 : decide (sc = 0) = true := decide_eq_true h0; rw [q1]; clear h0 q1
    go_enter Tryz.func187, Tryz.ntmps187
    go_wp2_with (go_at_call 217; refine (CA.out _).mono ?_; rintro e w1 ⟨rfl, hb⟩; have HB1 := hide (bthen HB0.out HB0.out.size hb); have HK1 := hide (HK0.out.below hb HK0.out.lt); have ka := HK1.out.cell; have kf := HK1.out.free; have la := HK1.out.lt; clear hb)
    refine bodyPost_ret (v := .tuple #[.agg #[.int .i64 sn, .int .i64 sd], .bool true]) (by simp [results, Tryz.results187, go_sem, ka, kf, la]) rfl ?_
    have hb := HB1.out; exact ⟨rfl, (by repeat (first | with_reducible exact Below.refl _ _ | with_reducible assumption | with_reducible refine Below.setCell ?_ (by first | omega | (simp; done) | (simp; omega)) _ | with_reducible refine Below.alloc ?_ (by first | omega | (simp; done) | (simp; omega)) _ | with_reducible refine Below.drew ?_ | with_reducible refine below_drewN ?_ _ | exact Below.refl _ _ | assumption | refine Below.drew ?_ | refine below_drewN ?_ _ | refine Below.alloc ?_ (by first | omega | (simp; done) | (simp; omega)) _ | refine Below.setCell ?_ (by first | omega | (simp; done) | (simp; omega)) _))⟩
  have q0 : (sc == 0) = false := beqI_f h0; have q1 : decide (sc = 0) = false := decide_eq_false h0; rw [q1]; clear h0 q1
  go_enter Tryz.func187, Tryz.ntmps187
  go_wp2_with (go_at_call 217; refine (CA.out _).mono ?_; rintro e w1 ⟨rfl, hb⟩; have HB1 := hide (bthen HB0.out HB0.out.size hb); have HK1 := hide (HK0.out.below hb HK0.out.lt); have ka := HK1.out.cell; have kf := HK1.out.free; have la := HK1.out.lt; clear hb)
  refine bodyPost_ret (v := .tuple #[.agg #[.int .i64 sn, .int .i64 sd], .bool false]) (by simp [results, Tryz.results187, go_sem, ka, kf, la]) rfl ?_
  have hb := HB1.out; exact ⟨rfl, (by repeat (first | with_reducible exact Below.refl _ _ | with_reducible assumption | with_reducible refine Below.setCell ?_ (by first | omega | (simp; done) | (simp; omega)) _ | with_reducible refine Below.alloc ?_ (by first | omega | (simp; done) | (simp; omega)) _ | with_reducible refine Below.drew ?_ | with_reducible refine below_drewN ?_ _ | exact Below.refl _ _ | assumption | refine Below.drew ?_ | refine below_drewN ?_ _ | refine Below.alloc ?_ (by first | omega | (simp; done) | (simp; omega)) _ | refine Below.setCell ?_ (by first | omega | (simp; done) | (simp; omega)) _))⟩
end Go.Proofs.YteiflbhcehajkaaGreatDoor
end
section
namespace Go.Proofs.YteiflbhcehajkaaGreatDoor
open Go.RowKit
section
variable {w w' a b : World} {F G : List Nat}
theorem Trn.refl (F : List Nat) (w : World) : Trn F w w := ⟨rfl, rfl, rfl, Nat.le_refl _, fun _ _ _ => rfl⟩
theorem Trn.trans (h : Trn F w a) (k : Trn F a b) : Trn F w b :=
  ⟨k.os.trans h.os, k.tape.trans h.tape, k.output.trans h.output, Nat.le_trans h.size k.size, fun x hx hn => (k.block x (Nat.lt_of_lt_of_le hx h.size) hn).trans (h.block x hx hn)⟩
theorem Trn.mono (h : Trn F w w') (hs : ∀ b ∈ F, b ∈ G) : Trn G w w' := ⟨h.os, h.tape, h.output, h.size, fun x hx hn => h.block x hx (fun e => hn (hs x e))⟩
theorem Trn.of_below (h : Below w.heap.size w w') : Trn F w w' := ⟨h.os, h.tape, h.output, h.size, fun x hx _ => h.block x hx⟩
theorem Trn.set_ {g : Nat} (hg : g ∈ F) (o : Nat) (u : Value) : Trn F w (w.setCell ⟨g, o, none⟩ u) :=
  ⟨rfl, rfl, rfl, by simp [World.setCell], fun x _ hn => Below.heap_setCell w _ u x (fun e => hn (by rw [show x = g from e]; exact hg))⟩
theorem Trn.alloc (o : Obj) : Trn F w (w.alloc o) := Trn.of_below ((Below.refl _ _).alloc (Nat.le_refl _) o)
theorem Trn.below {B : Nat} {w0 : World} (hb : Below B w0 w) (h : Trn F w w') (hF : ∀ b ∈ F, B ≤ b) (hB : B ≤ w.heap.size) : Below B w0 w' :=
  hb.trans ⟨h.os, h.tape, h.output, h.size, fun k hk => h.block k (by omega) (fun e => by have := hF k e; omega)⟩
theorem T.ows_trn {xs : List T} {cs : List Value} (h : T.ows w xs F cs) (k : Trn G w w') (hd : ∀ b ∈ F, b ∉ G) : T.ows w' xs F cs :=
  T.ows_keep xs F cs (fun b hb => k.block b (T.ows_lt xs F cs h b hb) (hd b hb)) h
end
theorem nodup_snd {A B : List Nat} (h : (A ++ B).Nodup) : B.Nodup := (List.nodup_append.1 h).2.1
theorem nodup_dj {A B : List Nat} (h : (A ++ B).Nodup) : ∀ b ∈ A, b ∉ B := fun b h1 h2 => (List.nodup_append.1 h).2.2 b h1 b h2 rfl
/-- A slice of the call's own, open at one element. -/
structure Mid (w : World) (E : TypeId) (sz n g cap : Nat) (pre : List T) (x : T) (post : List T) (G1 Fx G2 : List Nat) (c1 cx c2 : List Value) : Prop where
  own : w.ownsRow 0 E sz (.slice (some ⟨g, 0, none⟩) n cap) n (c1 ++ (cx ++ c2))
  pr : T.ows w pre G1 c1
  el : T.ow w x Fx cx
  po : T.ows w post G2 c2
  nd : (g :: (G1 ++ (Fx ++ G2))).Nodup
  wd : ∀ y ∈ pre ++ x :: post, T.wide y = sz
  ln : n = (pre ++ x :: post).length
end Go.Proofs.YteiflbhcehajkaaGreatDoor
end
section
namespace Go.Proofs.YteiflbhcehajkaaGreatDoor
open Go.RowKit
/-- Data in blocks of its own, from B on. -/
structure Own (B : Nat) (w : World) (x : T) (F : List Nat) (v : Value) : Prop where
  ow : T.ow w x F [v]
  nodup : F.Nodup
  lo : ∀ b ∈ F, B ≤ b
mutual
theorem T.rd_cell {w : World} : ∀ (x : T) (cs : List Value), T.rd w x cs → ∀ u ∈ cs, u.oneCell' = true
  | .num _, _, h => by simp only [T.rd] at h; subst h; simp [Value.oneCell']
  | .str _, _, h => by simp only [T.rd] at h; subst h; simp [Value.oneCell']
  | .sl _ _ _, _, h => by
    simp only [T.rd] at h
    obtain ⟨v, es, rfl, _, hr, _⟩ := h
    obtain ⟨_, A, cap, rfl, _⟩ := hr
    simp [Value.oneCell']
  | .st fs, cs, h => by simp only [T.rd] at h; exact T.rds_cell fs cs h
theorem T.rds_cell {w : World} : ∀ (xs : List T) (cs : List Value), T.rds w xs cs → ∀ u ∈ cs, u.oneCell' = true
  | [], _, h => by simp only [T.rds] at h; subst h; simp
  | x :: xs, _, h => by
    simp only [T.rds] at h
    obtain ⟨c1, c2, rfl, h1, h2⟩ := h
    intro u hu
    rcases List.mem_append.1 hu with hu | hu
    · exact T.rd_cell x c1 h1 u hu
    · exact T.rds_cell xs c2 h2 u hu
end
theorem Own.lt {B : Nat} {w : World} {x : T} {F : List Nat} {v : Value} (h : Own B w x F v) : ∀ b ∈ F, b < w.heap.size := T.ow_lt _ _ _ h.ow
theorem Own.all {B : Nat} {w w' : World} {x : T} {F : List Nat} {v : Value} (h : Own B w x F v) (hb : Below w.heap.size w w') : Own B w' x F v := ⟨T.ow_all h.ow hb, h.nodup, h.lo⟩
theorem Own.more {B B' : Nat} {w : World} {x : T} {F : List Nat} {v : Value} (h : Own B w x F v) (hb : B' ≤ B) : Own B' w x F v := ⟨h.ow, h.nodup, fun b m => Nat.le_trans hb (h.lo b m)⟩
theorem Own.app {B : Nat} {w : World} {E : TypeId} {sz : Nat} {xs : List T} {x : T} {F Fx : List Nat} {v : Value} {news : List Value} (h : Own B w (.sl E sz xs) F v) (hx : T.ow w x Fx news) (nx : Fx.Nodup) (lx : ∀ b ∈ Fx, B ≤ b)
    (hd : ∀ b ∈ F, b ∉ Fx) (hw : T.wide x = sz) (hB : B ≤ w.heap.size) :
    ∃ es, w.ownsRow 0 E sz v xs.length es ∧ ∀ v' w', w'.ownsRow 0 E sz v' (xs.length + 1) (es ++ news) → w.grownBy w' v.ownBlock → (∀ k, v'.ownBlock = some k → v.ownBlock = some k ∨ w.heap.size ≤ k) →
      ∃ F', Own B w' (.sl E sz (xs ++ [x])) F' v' ∧ ∀ b ∈ F', b ∈ F ∨ b ∈ Fx ∨ w.heap.size ≤ b := by
  obtain ⟨ho, hn, hlo⟩ := h
  simp only [T.ow] at ho
  obtain ⟨v0, es, G, e, rfl, hwd, hrow, hows⟩ := ho
  injection e with e _
  subst e
  refine ⟨es, hrow, fun v' w' hrow' hg hv => ⟨v'.ownBlock.toList ++ (G ++ Fx), ⟨?_, ?_, ?_⟩, ?_⟩⟩
  · simp only [T.ow]
    refine ⟨v', es ++ news, G ++ Fx, rfl, rfl, ?_, by simpa using hrow', ?_⟩
    · intro y hy
      rcases List.mem_append.1 hy with hy | hy
      · exact hwd y hy
      · simp at hy; subst hy; exact hw
    · refine T.ows_snoc (T.ows_keep _ _ _ (fun b hb => ?_) hows) (T.ow_keep _ _ _ (fun b hb => ?_) hx)
      · exact hg.block b (T.ows_lt _ _ _ hows b hb) (fun e => nodup_dj hn b (by rw [← e]; simp) hb)
      · exact hg.block b (T.ow_lt _ _ _ hx b hb) (fun e => hd b (List.mem_append.2 (.inl (by rw [← e]; simp))) hb)
  · rw [List.nodup_append]
    refine ⟨by cases v'.ownBlock <;> simp, ?_, ?_⟩
    · rw [List.nodup_append]
      exact ⟨nodup_snd hn, nx, fun a ha b hb e => hd a (List.mem_append.2 (.inr ha)) (e ▸ hb)⟩
    · intro a ha b hb e
      subst e
      have ha : v'.ownBlock = some a := by simpa using ha
      rcases hv a ha with k | k
      · rcases List.mem_append.1 hb with hb | hb
        · exact nodup_dj hn a (by rw [k]; simp) hb
        · exact hd a (List.mem_append.2 (.inl (by rw [k]; simp))) hb
      · rcases List.mem_append.1 hb with hb | hb
        · have := T.ows_lt _ _ _ hows a hb; omega
        · have := T.ow_lt _ _ _ hx a hb; omega
  · intro b hb
    rcases List.mem_append.1 hb with hb | hb
    · have hb : v'.ownBlock = some b := by simpa using hb
      rcases hv b hb with k | k
      · exact hlo b (List.mem_append.2 (.inl (by rw [k]; simp)))
      · omega
    · rcases List.mem_append.1 hb with hb | hb
      · exact hlo b (List.mem_append.2 (.inr hb))
      · exact lx b hb
  · intro b hb
    rcases List.mem_append.1 hb with hb | hb
    · have hb : v'.ownBlock = some b := by simpa using hb
      rcases hv b hb with k | k
      · exact .inl (List.mem_append.2 (.inl (by rw [k]; simp)))
      · exact .inr (.inr k)
    · rcases List.mem_append.1 hb with hb | hb
      · exact .inl (List.mem_append.2 (.inr hb))
      · exact .inr (.inl hb)
theorem Own.row {B : Nat} {w : World} {E : TypeId} {sz : Nat} {xs : List T} {F : List Nat} {v : Value} (h : Own B w (.sl E sz xs) F v) : ∀ k, v.ownBlock = some k → B ≤ k := by
  intro k hk
  obtain ⟨ho, hn, hlo⟩ := h
  simp only [T.ow] at ho
  obtain ⟨v0, es, G, e, rfl, _⟩ := ho
  injection e with e _
  subst e
  exact hlo k (List.mem_append.2 (.inl (by rw [hk]; simp)))
theorem Own.mem {B : Nat} {w : World} {E : TypeId} {sz : Nat} {xs : List T} {F : List Nat} {v : Value} (h : Own B w (.sl E sz xs) F v) : ∀ k, v.ownBlock = some k → k ∈ F := by
  intro k hk
  obtain ⟨ho, hn, hlo⟩ := h
  simp only [T.ow] at ho
  obtain ⟨v0, es, G, e, rfl, _⟩ := ho
  injection e with e _
  subst e
  exact List.mem_append.2 (.inl (by rw [hk]; simp))
theorem Own.born {B : Nat} {w : World} {E : TypeId} {sz : Nat} {v : Value} (h : w.ownsRow B E sz v 0 []) : Own B w (.sl E sz []) v.ownBlock.toList v := by
  refine ⟨?_, by cases v.ownBlock <;> simp, fun b hb => (h.lt b (by simpa using hb)).1⟩
  simp only [T.ow]
  refine ⟨v, [], [], rfl, by simp, by simp, ?_, by simp [T.ows]⟩
  exact own_more h (Nat.zero_le _)
theorem Nw.own {w w' : World} {x : T} {F : List Nat} {v : Value} (h : Nv w w' x F v) : Own w.heap.size w' x F v := ⟨h.ow, h.nodup, h.lo⟩
theorem Own.below {B : Nat} {w w' w0 : World} {E : TypeId} {sz : Nat} {xs : List T} {F : List Nat} {v : Value} (h : Own B w (.sl E sz xs) F v) (hb : Below B w0 w) (hB : B ≤ w.heap.size) (hg : w.grownBy w' v.ownBlock) : Below B w0 w' :=
  hb.grown hg hB (fun j hj => h.row j hj)
theorem T.ow_st {w : World} {fs : List T} {F : List Nat} {cs : List Value} (h : T.ows w fs F cs) : T.ow w (.st fs) F cs := by simp only [T.ow]; exact h
section
variable {P : Program}
/-- append of one element, whose cells the call has just laid in a block. -/
theorem app1_T {w : World} {ops : Array Oper} {rest : List Oper} {o : Oper} {a : Act} {Q : Exit → Act → World → Prop} {news : Array Value} (hgd : o.guard = none) (s y : Operand) (t : TypeId)
    (ho : o.op = .call { callee := .builtin .append, args := #[s, y], argTypes := #[t, t] }) (B : Nat) (e : TypeId) (z : Value) (size bytes : Nat) (ht : P.underlying t = some (.slice e))
    (hinfo : (P.info? e).map (fun i => (i.zero, i.size, i.bytes)) = some (some z, size, bytes)) (hzs : z.cells.size = size) (hsz : 0 < size)
    {v : Value} {xs : List T} {x : T} {F Fx : List Nat} (hs : a.eval s = v) (hown : Own B w (.sl e size xs) F v) (hx : T.ow w x Fx news.toList) (nx : Fx.Nodup) (lx : ∀ b ∈ Fx, B ≤ b) (hd : ∀ b ∈ F, b ∉ Fx) (hw : T.wide x = size)
    (hy : a.eval y = .slice (some ⟨w.heap.size, 0, none⟩) 1 1) (hbytes : (xs.length + 1) * bytes ≤ 140737488355328) (h63 : xs.length + 1 ≤ 9223372036854775807) (hB : B ≤ w.heap.size)
    (h : ∀ v' w' F', Own B w' (.sl e size (xs ++ [x])) F' v' → w.grownBy w' v.ownBlock → (∀ b ∈ F', b ∈ F ∨ b ∈ Fx ∨ w.heap.size ≤ b) → wpList P ops Q rest (a.put o.dst v') w') :
    wpList P ops Q (o :: rest) a (w.alloc (.cells news e)) := by
  obtain ⟨es, hrow, hk⟩ := hown.app hx nx lx hd hw hB
  refine app_one hgd s y t ho 0 e z size bytes ht hinfo hzs hsz v xs.length es hs hrow hy ?_ ?_ hbytes h63 (Nat.zero_le _) ?_
  · have := T.rd_len x _ (T.ow_rd _ _ _ hx)
    rw [hw] at this
    simpa using this
  · exact T.rd_cell x _ (T.ow_rd _ _ _ hx)
  · intro v' w' h1 h2 h3
    obtain ⟨F', k1, k2⟩ := hk v' w' h1 h2 h3
    exact h v' w' F' k1 h2 k2
end
end Go.Proofs.YteiflbhcehajkaaGreatDoor
end
section
namespace Go.Proofs.YteiflbhcehajkaaGreatDoor
open Go.RowKit
/-- The element is another, in other blocks: the slice is closed again. -/
theorem Mid.put {w w' : World} {E : TypeId} {sz n g cap : Nat} {pre : List T} {x x' : T} {post : List T} {G1 Fx G2 Fy : List Nat} {c1 cx cx' c2 : List Value} (h : Mid w E sz n g cap pre x post G1 Fx G2 c1 cx c2)
    (k : Trn [g] w w') (ho : w'.ownsRow 0 E sz (.slice (some ⟨g, 0, none⟩) n cap) n (c1 ++ (cx' ++ c2))) (he : T.ow w' x' Fy cx') (hw : T.wide x' = sz) :
    T.ow w' (.sl E sz (pre ++ x' :: post)) (g :: (G1 ++ (Fy ++ G2))) [.slice (some ⟨g, 0, none⟩) n cap] := by
  have hg := (List.nodup_cons.1 h.nd).1
  have d1 : ∀ b ∈ G1, b ∉ [g] := fun b hb hm => by
    rw [List.mem_singleton] at hm; subst hm; exact hg (by simp [hb])
  have d2 : ∀ b ∈ G2, b ∉ [g] := fun b hb hm => by
    rw [List.mem_singleton] at hm; subst hm; exact hg (by simp [hb])
  simp only [T.ow]
  refine ⟨_, c1 ++ (cx' ++ c2), G1 ++ (Fy ++ G2), rfl, by simp [Value.ownBlock], ?_, ?_, ?_⟩
  · intro y hy
    rcases List.mem_append.1 hy with hy | hy
    · exact h.wd y (by simp [hy])
    · rcases List.mem_cons.1 hy with rfl | hy
      · exact hw
      · exact h.wd y (by simp [hy])
  · have : (pre ++ x' :: post).length = n := by rw [h.ln]; simp
    rw [this]; exact ho
  · refine (T.ows_app _ _ _ _).2 ⟨G1, Fy ++ G2, c1, cx' ++ c2, rfl, rfl, T.ows_trn h.pr k d1, ?_⟩
    simp only [T.ows]
    exact ⟨Fy, G2, cx', c2, rfl, rfl, he, T.ows_trn h.po k d2⟩
end Go.Proofs.YteiflbhcehajkaaGreatDoor
end
section
namespace Go.Proofs.YteiflbhcehajkaaGreatDoor
open Go.RowKit
end Go.Proofs.YteiflbhcehajkaaGreatDoor
end
