/- Contracts: StoreSignal of both sides; the law. -/
import Derived.Test.YtopgjanpbfnlnaaFa
namespace Go.Proofs.Ytopgjanpbfnlnaa
open Go.RowKit
def storeF (xs : List Int) (m : Int) : ByteArray × Int := if sigB xs then (if inB m 16 256 then (storeS xs m.toNat, 0) else (⟨#[]⟩, 2)) else (⟨#[]⟩, 1)
def StoR (xs : List Int) (m : Int) (w : World) (e : Ending) (w' : World) : Prop := e = .returned (.tuple #[.string (storeF xs m).1, .int .i64 (storeF xs m).2]) ∧ Below w.heap.size w w'
theorem StoR.mk {xs : List Int} {m : Int} {w w' : World} {a : ByteArray} {c : Int} (h : storeF xs m = (a, c)) (hb : Below w.heap.size w w') : StoR xs m w (.returned (.tuple #[.string a, .int .i64 c])) w' := ⟨by rw [h], hb⟩
set_option maxHeartbeats 800000 in
set_option maxRecDepth 100000 in
theorem c_sStoreSignal (v : Value) (xs : List Int) (m : Int) (w : World) (hr : RdI w v xs) (hn : xs.length ≤ 1048576) : Calls Try.prog 37 #[v, .int .i64 m] w (StoR xs m w) := by
  have HR := hide hr; clear hr
  cases hs : sigB xs
  · have HE := hide (show storeF xs m = (⟨#[]⟩, 1) by unfold storeF; rw [hs]; rfl)
    go_enter Try.func37, Try.ntmps37
    go_wp2_with (go_at_call 63; refine (c_l03Ok _ xs _ HR.out).mono ?_; rintro e w' ⟨rfl, rfl⟩)
    go_ret2
    exact StoR.mk HE.out (Below.refl _ _)
  · cases hi : inB m 16 256
    · have HE := hide (show storeF xs m = (⟨#[]⟩, 2) by unfold storeF; rw [hs, hi]; rfl)
      go_enter Try.func37, Try.ntmps37
      go_wp2_with (first | (go_at_call 63; refine (c_l03Ok _ xs _ HR.out).mono ?_; rintro e w' ⟨rfl, rfl⟩) | (go_at_call 59; refine (c_l00In _ _ _ _).mono ?_; rintro e w' ⟨rfl, rfl⟩))
      go_ret2
      exact StoR.mk HE.out (Below.refl _ _)
    · obtain ⟨h0, h3⟩ := inB_true.1 hi
      obtain ⟨f, rfl⟩ := Int.eq_ofNat_of_zero_le (show 0 ≤ m by omega)
      have HE := hide (show storeF xs f = (storeS xs f, 0) by unfold storeF; rw [hs, hi]; rfl)
      have hsl := (sigB_true.1 hs).1
      have HSS := hide (sigB_true.1 hs).2
      go_enter Try.func37, Try.ntmps37
      go_wp2_with fail
      refine (c_l03Ok _ xs _ HR.out).mono ?_; rintro e w' ⟨rfl, rfl⟩
      go_wp2_with fail
      refine (c_l00In _ _ _ _).mono ?_; rintro e w' ⟨rfl, rfl⟩
      go_wp2_with fail
      refine (c_l30Store _ xs f _ HR.out HSS.out hsl (by omega)).mono ?_; rintro e w1 ⟨rfl, hb⟩
      have HB := hide hb; clear hb
      go_wp2
      go_ret2
      exact StoR.mk HE.out HB.out
set_option maxHeartbeats 800000 in
set_option maxRecDepth 100000 in
theorem c_iStoreSignal (v : Value) (xs : List Int) (m : Int) (w : World) (hr : RdI w v xs) (hn : xs.length ≤ 1048576) : Calls Try.prog 38 #[v, .int .i64 m] w (StoR xs m w) := by
  have HR := hide hr; clear hr
  cases hs : sigB xs
  · have HE := hide (show storeF xs m = (⟨#[]⟩, 1) by unfold storeF; rw [hs]; rfl)
    go_enter Try.func38, Try.ntmps38
    go_wp2_with (go_at_call 71; refine (c_isSignal _ xs _ HR.out).mono ?_; rintro e w' ⟨rfl, rfl⟩)
    go_ret2
    exact StoR.mk HE.out (Below.refl _ _)
  · cases hi : inB m 16 256
    · have HE := hide (show storeF xs m = (⟨#[]⟩, 2) by unfold storeF; rw [hs, hi]; rfl)
      go_enter Try.func38, Try.ntmps38
      go_wp2_with (first | (go_at_call 71; refine (c_isSignal _ xs _ HR.out).mono ?_; rintro e w' ⟨rfl, rfl⟩) | (go_at_call 62; refine (c_within _ _ _ _).mono ?_; rintro e w' ⟨rfl, rfl⟩))
      go_ret2
      exact StoR.mk HE.out (Below.refl _ _)
    · obtain ⟨h0, h3⟩ := inB_true.1 hi
      obtain ⟨f, rfl⟩ := Int.eq_ofNat_of_zero_le (show 0 ≤ m by omega)
      have HE := hide (show storeF xs f = (storeS xs f, 0) by unfold storeF; rw [hs, hi]; rfl)
      have hsl := (sigB_true.1 hs).1
      have HSS := hide (sigB_true.1 hs).2
      go_enter Try.func38, Try.ntmps38
      go_wp2_with fail
      refine (c_isSignal _ xs _ HR.out).mono ?_; rintro e w' ⟨rfl, rfl⟩
      go_wp2_with fail
      refine (c_within _ _ _ _).mono ?_; rintro e w' ⟨rfl, rfl⟩
      go_wp2_with fail
      refine (c_size _ xs _ HR.out).mono ?_; rintro e w' ⟨rfl, rfl⟩
      go_wp2_with fail
      refine (c_storeHead xs.length f _ (by omega) (by omega)).mono ?_; rintro e w1 ⟨rfl, hb1⟩
      have HB1 := hide hb1; clear hb1
      go_wp2_with fail
      refine (c_framesText _ xs f _ (HR.out.below HB1.out) HSS.out hsl (by omega)).mono ?_; rintro e w2 ⟨rfl, hb2⟩
      have HB := hide (bthen HB1.out HB1.out.size hb2); clear hb2
      have hzb := size_bodyTo HSS.out (show f ≤ 256 by omega) (nch xs.length f)
      have hnc : nch xs.length f ≤ 5000 := by unfold nch; exact Nat.le_trans (Nat.div_le_self _ _) (by omega)
      have hz0 := size_headS f xs.length
      have HST := hide (show storeS xs f = headS f xs.length ++ bodyTo xs f (nch xs.length f) from rfl)
      have hz : (headS f xs.length).size + (bodyTo xs f (nch xs.length f)).size ≤ 9223372036854775807 := by omega
      go_wp2
      go_ret2
      exact StoR.mk HE.out HB.out
set_option maxHeartbeats 800000 in
set_option maxRecDepth 100000 in
theorem law_StoreSignal (v : Value) (xs : List Int) (m : Int) (w : World) (hr : RdI w v xs) : Calls Try.prog 10 #[v, .int .i64 m] w fun e w' => e = .returned (.bool true) ∧ Below w.heap.size w w' := by
  have HR := hide hr
  obtain ⟨A, cap, rfl, hl, hc, hx⟩ := hr.open_
  clear hr hx
  by_cases hn : xs.length ≤ 1048576
  · generalize hp : storeF xs m = p at *
    have HP := hide hp; clear hp
    go_enter Try.func10, Try.ntmps10
    go_wp2_with fail
    refine (c_toInt64S _ xs _ HR.out hn).mono ?_; rintro e w1 ⟨va, rfl, oa, hb⟩
    have hs1 := hb.size
    have Fa1 := hide (Fr.born oa); clear oa
    have HB1 := hide hb; clear hb
    go_wp2_with fail
    refine (c_sStoreSignal _ xs m _ Fa1.out.rd hn).mono ?_; rintro e w2 ⟨rfl, hb⟩
    have hs2 := hb.size
    have Fa2 := hide (Fa1.out.below hb (by omega)); clear Fa1
    have HB2 := hide (bthen HB1.out (by omega) hb); clear hb HB1
    rw [HP.out]
    go_wp2_with fail
    refine (c_toInt64S _ xs _ (HR.out.below HB2.out) hn).mono ?_; rintro e w3 ⟨vx, rfl, ox, hb⟩
    have hs3 := hb.size
    have Fx3 := hide (Fr.born ox); clear ox
    have HB3 := hide (bthen HB2.out (by omega) hb); clear hb HB2
    go_wp2_with fail
    refine (c_iStoreSignal _ xs m _ Fx3.out.rd hn).mono ?_; rintro e w4 ⟨rfl, hb⟩
    have hs4 := hb.size
    have Fx4 := hide (Fx3.out.below hb (by omega)); clear Fx3
    have HB4 := hide (bthen HB3.out (by omega) hb); clear hb HB3
    rw [HP.out]
    go_wp2_with fail
    refine (c_toInt64S _ xs _ (HR.out.below HB4.out) hn).mono ?_; rintro e w5 ⟨vb, rfl, ob, hb⟩
    have hs5 := hb.size
    have Fx5 := hide (Fx4.out.below hb (by omega)); clear Fx4
    have Fb5 := hide (Fr.born ob); clear ob
    have HB5 := hide (bthen HB4.out (by omega) hb); clear hb HB4
    go_wp2_with fail
    refine (c_eqI _ _ xs _ Fx5.out.rd Fb5.out.rd).mono ?_; rintro e w6 ⟨rfl, hd⟩
    have hs6 := dr_size hd
    have HS6 := hide hs6; replace hs6 : w5.heap.size ≤ w6.heap.size := by omega
    have ht6 : w6.heap.size ≤ w5.heap.size := by have := HS6.out; omega
    have Fx6 := hide (Fx5.out.dr hd); clear Fx5
    have Fb6 := hide (Fb5.out.dr hd); clear Fb5
    have HB6 := hide (Dr.below HB5.out hd); clear hd HB5
    go_wp2
    go_ret
    exact ⟨rfl, HB6.out⟩
  · go_enter Try.func10, Try.ntmps10
    go_wp2
    go_ret
    exact ⟨rfl, Below.refl _ _⟩
end Go.Proofs.Ytopgjanpbfnlnaa
