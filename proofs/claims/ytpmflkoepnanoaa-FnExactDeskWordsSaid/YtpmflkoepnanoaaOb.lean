/- DeskWords: the law. -/
import Derived.Test.YtpmflkoepnanoaaOa
import Derived.Test.YtpmflkoepnanoaaVe
namespace Go.Proofs.Ytpmflkoepnanoaa
open Go.RowKit
set_option maxRecDepth 100000 in
set_option maxHeartbeats 1000000 in
theorem c_l33Words (w : World) : Calls Try.prog 28 #[] w fun e w' => ∃ v, e = .returned v ∧ OwS 9 w' w.heap.size v (wordsL.map mkS) ∧ Below w.heap.size w w' := by
  have HL := hide (World.ownsRow_lit (base := w.heap.size) (e := 9) (size := 1) w #[.string ⟨#[98, 101, 97, 116, 115]⟩, .string ⟨#[99, 104, 111, 114, 100]⟩, .string ⟨#[99, 108, 105, 112]⟩, .string ⟨#[100, 101, 99, 105, 109, 97, 116, 101]⟩, .string ⟨#[102, 111, 108, 100]⟩, .string ⟨#[102, 114, 101, 113, 117, 101, 110, 99, 121]⟩, .string ⟨#[103, 97, 105, 110]⟩, .string ⟨#[104, 111, 108, 100]⟩, .string ⟨#[105, 116, 101, 109, 115]⟩, .string ⟨#[108, 101, 110, 103, 116, 104]⟩, .string ⟨#[109, 105, 120]⟩, .string ⟨#[109, 111, 118, 101]⟩, .string ⟨#[110, 111, 116, 101, 115]⟩, .string ⟨#[110, 117, 108, 108]⟩, .string ⟨#[112, 97, 114, 116]⟩, .string ⟨#[112, 108, 97, 121]⟩, .string ⟨#[112, 114, 111, 106, 101, 99, 116]⟩, .string ⟨#[113, 117, 97, 110, 116, 105, 122, 101]⟩, .string ⟨#[114, 101, 118, 101, 114, 115, 101]⟩, .string ⟨#[115, 104, 105, 102, 116]⟩, .string ⟨#[115, 104, 111, 119]⟩, .string ⟨#[115, 105, 103, 110, 97, 108]⟩, .string ⟨#[115, 111, 117, 114, 99, 101]⟩, .string ⟨#[115, 116, 101, 109]⟩, .string ⟨#[115, 116, 111, 114, 101]⟩, .string ⟨#[115, 116, 114, 101, 116, 99, 104]⟩, .string ⟨#[115, 117, 109, 115]⟩, .string ⟨#[116, 97, 112, 115]⟩, .string ⟨#[116, 101, 109, 112, 111]⟩, .string ⟨#[116, 114, 97, 99, 107]⟩, .string ⟨#[116, 117, 110, 101]⟩, .string ⟨#[119, 97, 118, 101]⟩] 32 (Nat.le_refl _) (by decide) rfl)
  go_enter Try.func28, Try.ntmps28
  go_wp2
  go_ret
  exact ⟨_, rfl, ⟨strV_len, HL.out⟩, (Below.refl _ _).alloc (Nat.le_refl _) _⟩
theorem c_sDeskWords (w : World) : Calls Try.prog 6 #[] w fun e w' => ∃ v, e = .returned v ∧ OwS 9 w' w.heap.size v (wordsL.map mkS) ∧ Below w.heap.size w w' := by
  go_enter Try.func6, Try.ntmps6
  go_wp2_with fail
  refine (c_l33Words _).mono ?_; rintro e w1 ⟨v, rfl, ho, hb⟩
  have HO := hide ho; have HB := hide hb; clear ho hb
  go_wp2
  go_ret
  exact ⟨_, rfl, HO.out, HB.out⟩
set_option maxHeartbeats 1000000 in
set_option maxRecDepth 100000 in
theorem law_DeskWords (w : World) : Calls Try.prog 3 #[] w fun e w' => e = .returned (.bool true) ∧ Below w.heap.size w w' := by
  have KS := hide c_sDeskWords; have KI := hide c_iDeskWords
  have hlen : (wordsL.map mkS).length ≤ 1048576 := by rw [List.length_map]; decide
  generalize wordsL.map mkS = ls at *
  go_enter Try.func3, Try.ntmps3
  go_wp2_with fail
  refine (KS.out _).mono ?_; rintro e w1 ⟨vw, rfl, ow, hb⟩
  have hs1 := hb.size
  have Fw1 := hide (FrG.born ow); clear ow
  have HB1 := hide hb; clear hb
  go_wp2_with fail
  refine (KI.out _).mono ?_; rintro e w2 ⟨vg, rfl, og, hb⟩
  have hs2 := hb.size
  have Fw2 := hide (Fw1.out.below hb (by omega)); clear Fw1
  have Fg2 := hide (FrG.born og); clear og
  have HB2 := hide (bthen HB1.out (by omega) hb); clear hb HB1
  go_wp2_with fail
  refine (c_eqSS _ _ ls _ Fg2.out.rd Fw2.out.rd).mono ?_; rintro e w3 ⟨rfl, hb⟩
  have hs3 := hb.size
  have Fw3 := hide (Fw2.out.below hb (by omega)); clear Fw2
  have Fg3 := hide (Fg2.out.below hb (by omega)); clear Fg2
  have HB3 := hide (bthen HB2.out (by omega) hb); clear hb HB2
  go_wp2_with fail
  refine (c_markStringS _ _ ls 1 _ Fg3.out.1 (by omega) (by omega) (by omega)).mono ?_; rintro e w4 ⟨rfl, om, hb⟩
  have hs4 := hb.size
  have Fw4 := hide (Fw3.out.below hb (by omega)); clear Fw3
  have Fg4 := hide (Fg3.out.mark om); clear Fg3 om
  have HB4 := hide (HB3.out.trans (hb.mono (by omega))); clear hb HB3
  go_wp2_with fail
  refine (c_heldSS _ ls.length 1 _ Fg4.out.rd (by omega) (by omega)).mono ?_; rintro e w5 ⟨rfl, hb⟩
  have hs5 := hb.size
  have Fw5 := hide (Fw4.out.below hb (by omega)); clear Fw4
  have Fg5 := hide (Fg4.out.below hb (by omega)); clear Fg4
  have HB5 := hide (bthen HB4.out (by omega) hb); clear hb HB4
  go_wp2_with fail
  refine (KI.out _).mono ?_; rintro e w6 ⟨vh, rfl, oh, hb⟩
  have hs6 := hb.size
  have Fw6 := hide (Fw5.out.below hb (by omega)); clear Fw5
  have Fg6 := hide (Fg5.out.below hb (by omega)); clear Fg5
  have Fh6 := hide (FrG.born oh); clear oh
  have HB6 := hide (bthen HB5.out (by omega) hb); clear hb HB5
  go_wp2_with fail
  refine (c_eqSS _ _ ls _ Fh6.out.rd Fw6.out.rd).mono ?_; rintro e w7 ⟨rfl, hb⟩
  have hs7 := hb.size
  have Fw7 := hide (Fw6.out.below hb (by omega)); clear Fw6
  have Fg7 := hide (Fg6.out.below hb (by omega)); clear Fg6
  have Fh7 := hide (Fh6.out.below hb (by omega)); clear Fh6
  have HB7 := hide (bthen HB6.out (by omega) hb); clear hb HB6
  go_wp2_with fail
  refine (c_heldSS _ ls.length 1 _ Fg7.out.rd (by omega) (by omega)).mono ?_; rintro e w8 ⟨rfl, hb⟩
  have hs8 := hb.size
  have Fw8 := hide (Fw7.out.below hb (by omega)); clear Fw7
  have Fg8 := hide (Fg7.out.below hb (by omega)); clear Fg7
  have Fh8 := hide (Fh7.out.below hb (by omega)); clear Fh7
  have HB8 := hide (bthen HB7.out (by omega) hb); clear hb HB7
  go_wp2
  go_ret
  exact ⟨rfl, HB8.out⟩
end Go.Proofs.Ytpmflkoepnanoaa
