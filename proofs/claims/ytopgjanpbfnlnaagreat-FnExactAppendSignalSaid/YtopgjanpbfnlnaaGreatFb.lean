/- Contracts: StoreSignal of both sides; the law. -/
import Derived.Test.YtopgjanpbfnlnaaGreatFa
namespace Go.Proofs.YtopgjanpbfnlnaaGreat
open Go.RowKit
def storeF (xs : List Int) (m : Int) : ByteArray × Int := if sigB xs then (if inB m 16 256 then (storeS xs m.toNat, 0) else (⟨#[]⟩, 2)) else (⟨#[]⟩, 1)
def StoR (xs : List Int) (m : Int) (w : World) (e : Ending) (w' : World) : Prop := e = .returned (.tuple #[.string (storeF xs m).1, .int .i64 (storeF xs m).2]) ∧ Below w.heap.size w w'
theorem StoR.mk {xs : List Int} {m : Int} {w w' : World} {a : ByteArray} {c : Int} (h : storeF xs m = (a, c)) (hb : Below w.heap.size w w') : StoR xs m w (.returned (.tuple #[.string a, .int .i64 c])) w' := ⟨by rw [h], hb⟩
set_option maxHeartbeats 800000 in
set_option maxRecDepth 100000 in
theorem c_sStoreSignal (v : Value) (xs : List Int) (m : Int) (w : World) (hr : RdI w v xs) (hn : xs.length ≤ 1048576) : Calls Tryz.prog 16 #[v, .int .i64 m] w (StoR xs m w) := by
  have HR := hide hr; clear hr
  cases hs : sigB xs
  · have HE := hide (show storeF xs m = (⟨#[]⟩, 1) by unfold storeF; rw [hs]; rfl)
    go_enter Tryz.func16, Tryz.ntmps16
    go_wp2_with (go_at_call 37; refine (c_l03Ok _ xs _ HR.out).mono ?_; rintro e w' ⟨rfl, rfl⟩)
    go_ret2
    exact StoR.mk HE.out (Below.refl _ _)
  · cases hi : inB m 16 256
    · have HE := hide (show storeF xs m = (⟨#[]⟩, 2) by unfold storeF; rw [hs, hi]; rfl)
      go_enter Tryz.func16, Tryz.ntmps16
      go_wp2_with (first | (go_at_call 37; refine (c_l03Ok _ xs _ HR.out).mono ?_; rintro e w' ⟨rfl, rfl⟩) | (go_at_call 41; refine (c_l00In _ _ _ _).mono ?_; rintro e w' ⟨rfl, rfl⟩))
      go_ret2
      exact StoR.mk HE.out (Below.refl _ _)
    · obtain ⟨h0, h3⟩ := inB_true.1 hi
      obtain ⟨f, rfl⟩ := Int.eq_ofNat_of_zero_le (show 0 ≤ m by omega)
      have HE := hide (show storeF xs f = (storeS xs f, 0) by unfold storeF; rw [hs, hi]; rfl)
      have hsl := (sigB_true.1 hs).1
      have HSS := hide (sigB_true.1 hs).2
      go_enter Tryz.func16, Tryz.ntmps16
      go_wp2_with fail
      refine (c_l03Ok _ xs _ HR.out).mono ?_; rintro e w' ⟨rfl, rfl⟩
      go_wp2_with fail
      refine (c_l00In _ _ _ _).mono ?_; rintro e w' ⟨rfl, rfl⟩
      go_wp2_with fail
      refine (c_l30Store _ xs f _ HR.out HSS.out hsl (by omega)).mono ?_; rintro e w1 ⟨rfl, hb⟩
      have HB := hide hb; clear hb
      go_wp2
      go_ret2
      exact StoR.mk HE.out HB.out
set_option maxHeartbeats 800000 in
set_option maxRecDepth 100000 in
theorem c_iStoreSignal (v : Value) (xs : List Int) (m : Int) (w : World) (hr : RdI w v xs) (hn : xs.length ≤ 1048576) : Calls Tryz.prog 9 #[v, .int .i64 m] w (StoR xs m w) := by
  have HR := hide hr; clear hr
  cases hs : sigB xs
  · have HE := hide (show storeF xs m = (⟨#[]⟩, 1) by unfold storeF; rw [hs]; rfl)
    go_enter Tryz.func9, Tryz.ntmps9
    go_wp2_with (go_at_call 28; refine (c_isSignal _ xs _ HR.out).mono ?_; rintro e w' ⟨rfl, rfl⟩)
    go_ret2
    exact StoR.mk HE.out (Below.refl _ _)
  · cases hi : inB m 16 256
    · have HE := hide (show storeF xs m = (⟨#[]⟩, 2) by unfold storeF; rw [hs, hi]; rfl)
      go_enter Tryz.func9, Tryz.ntmps9
      go_wp2_with (first | (go_at_call 28; refine (c_isSignal _ xs _ HR.out).mono ?_; rintro e w' ⟨rfl, rfl⟩) | (go_at_call 29; refine (c_within _ _ _ _).mono ?_; rintro e w' ⟨rfl, rfl⟩))
      go_ret2
      exact StoR.mk HE.out (Below.refl _ _)
    · obtain ⟨h0, h3⟩ := inB_true.1 hi
      obtain ⟨f, rfl⟩ := Int.eq_ofNat_of_zero_le (show 0 ≤ m by omega)
      have HE := hide (show storeF xs f = (storeS xs f, 0) by unfold storeF; rw [hs, hi]; rfl)
      have hsl := (sigB_true.1 hs).1
      have HSS := hide (sigB_true.1 hs).2
      go_enter Tryz.func9, Tryz.ntmps9
      go_wp2_with fail
      refine (c_isSignal _ xs _ HR.out).mono ?_; rintro e w' ⟨rfl, rfl⟩
      go_wp2_with fail
      refine (c_within _ _ _ _).mono ?_; rintro e w' ⟨rfl, rfl⟩
      go_wp2_with fail
      refine (c_size _ xs _ HR.out).mono ?_; rintro e w' ⟨rfl, rfl⟩
      go_wp2_with fail
      refine (c_storeHead xs.length f _ (by omega) (by omega)).mono ?_; rintro e w1 ⟨rfl, hb1⟩
      have HB1 := hide hb1; clear hb1
      go_wp2_with fail
      refine (c_framesText _ xs f _ (HR.out.below HB1.out) HSS.out hsl (by omega)).mono ?_; rintro e w2 ⟨rfl, hb2⟩
      have HB := hide (bthen HB1.out HB1.out.size hb2); clear hb2
      have hzb := size_bodyTo HSS.out (show f ≤ 256 by omega) (nch xs.length f)
      have hnc : nch xs.length f ≤ 5000 := by unfold nch; exact Nat.le_trans (Nat.div_le_self _ _) (by omega)
      have hz0 := size_headS f xs.length
      have HST := hide (show storeS xs f = headS f xs.length ++ bodyTo xs f (nch xs.length f) from rfl)
      have hz : (headS f xs.length).size + (bodyTo xs f (nch xs.length f)).size ≤ 9223372036854775807 := by omega
      go_wp2
      go_ret2
      exact StoR.mk HE.out HB.out
end Go.Proofs.YtopgjanpbfnlnaaGreat
