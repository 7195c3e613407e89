/- Contracts: frames of the program; EncodeFrame of both sides; the law. -/
import Derived.Test.YtpmflkoepnanoaaGreatEb
namespace Go.Proofs.YtpmflkoepnanoaaGreat
open Go.RowKit
set_option maxHeartbeats 1000000 in
set_option maxRecDepth 100000 in
theorem c_encodeFrame (v : Value) (xs : List Int) (w : World) (hr : RdI w v xs) (hs : ∀ x ∈ xs, Smp x) (hn : xs.length ≤ 4000) : Calls Tryz.prog 43 #[v] w fun e w' => e = .returned (.string (frameS xs (ordR xs).1 (ordR xs).2)) ∧ Below w.heap.size w w' := by
  have HR0 := hide hr; have HS := hide hs
  obtain ⟨A, cap, rfl, hl, hc, hx⟩ := hr.open_
  clear hr hs hx
  have ho : (ordR xs).1 ≤ 3 := (ordTo_bd HS.out 3).1
  have hk : (ordR xs).2 ≤ 30 := (ordTo_bd HS.out 3).2.1
  obtain ⟨w0, rfl⟩ : ∃ w0 : World, w0 = w := ⟨_, rfl⟩
  go_enter Tryz.func43, Tryz.ntmps43
  go_wp2_with fail
  refine (c_bestOrder _ xs _ HR0.out HS.out (by omega)).mono ?_; rintro e w ⟨rfl, hb0⟩
  have HR := hide (HR0.out.below hb0)
  have HB0 := hide hb0; have hs0 := hb0.size; clear hb0 HR0
  generalize hod : (ordR xs).1 = o at *
  generalize hok : (ordR xs).2 = k at *
  have HOD := hide hod; have HOK := hide hok; clear hod hok
  have ho' : o < 256 := by omega
  have hk' : k < 256 := by omega
  have hwo : IntKind.u8.wrap (o : Int) = (o : Int) := IntWalk.u8_in _ (by omega)
  have hwk : IntKind.u8.wrap (k : Int) = (k : Int) := IntWalk.u8_in _ (by omega)
  have hcv := fun W => str_of (pair_cells o k (by omega) (by omega) W).rd
  have hcvd := fun W => str_of (w := (World.drew (W.alloc (.cells #[.int .u8 (o : Int), .int .u8 (k : Int)] 5)))) (RdY.drew (pair_cells o k ho' hk' W).rd)
  have hle := length_encP o k HS.out hk
  have HCAT := hide (show mkS (wordL xs.length) ++ mkS [UInt8.ofNat o, UInt8.ofNat k] ++ mkS (packL (encL (predictF o xs) k)) = mkS (frameL xs o k) by rw [mkS_append, mkS_append]; rfl)
  have hz1 : (mkS (wordL xs.length)).size + (mkS [UInt8.ofNat o, UInt8.ofNat k]).size ≤ 9223372036854775807 := by rw [size_mkS, size_mkS]; simp [wordL]
  have hz2 : (mkS (wordL xs.length) ++ mkS [UInt8.ofNat o, UInt8.ofNat k]).size + (mkS (packL (encL (predictF o xs) k))).size ≤ 9223372036854775807 := by rw [ByteArray.size_append, size_mkS, size_mkS, size_mkS, length_packL]; simp [wordL]; omega
  have hz3 : (mkS (frameL xs o k)).size ≤ 1073741824 := by rw [size_mkS]; unfold frameL; simp [wordL, length_packL]; omega
  have HPS := hide (smp_predictF o xs HS.out)
  have HBE := hide (bits_encL (predictF o xs) k)
  have hpl := length_predictF o xs
  have HPL := hide hpl; clear hpl
  generalize hpk : packL (encL (predictF o xs) k) = pk at *
  generalize hen : encL (predictF o xs) k = en at *
  generalize hpr : predictF o xs = pr at *
  generalize hwl : wordL xs.length = wl at *
  generalize hpp : [UInt8.ofNat o, UInt8.ofNat k] = pp at *
  have HPK := hide hpk; have HEN := hide hen; have HPR := hide hpr; have HWL := hide hwl; have HPP := hide hpp; clear hpk hen hpr hwl hpp
  go_wp2_with fail
  go_region_with (first | (go_at_call 27; refine (c_size _ _ _ (by first | exact HR.out | exact Rd.drew HR.out | exact Rd.alloc HR.out _ | exact Rd.drew (Rd.alloc HR.out _))).mono ?_; rintro e w' ⟨rfl, rfl⟩) | (go_at_call 50; refine (c_twoBytes xs.length _ (by omega)).mono ?_; rw [HWL.out]; rintro e w1 ⟨rfl, hb⟩; (first | (have hst := pair_after (o := o) (k := k) ho' hk' hb; rw [HPP.out] at hst) | (have hst := pair_after (o := o) (k := k) ho' hk' (undrew hb); rw [HPP.out] at hst) | skip); have HB := hide hb; clear hb))
  all_goals go_wp2_with fail
  all_goals (refine calls_gen (w := w) (by first | exact ((undrew HB.out).alloc (undrew HB.out).size _) | exact ((Below.refl _ w).alloc (Nat.le_refl _) _).trans ((undrew HB.out).mono (by simp)) | exact ((Below.refl _ w).alloc (Nat.le_refl _) _).trans (HB.out.mono (by simp)) | exact HB.out.alloc HB.out.size _) (fun W hbw => ?_))
  all_goals have HBW := hide hbw
  all_goals have hsW := hbw.size
  all_goals clear hbw
  all_goals (refine (c_predict _ xs o _ (HR.out.below HBW.out) HS.out (by omega) ho).mono ?_; rw [HPR.out]; rintro e w2 ⟨v2, rfl, ho2, hb2⟩)
  all_goals have HO2 := hide ho2
  all_goals have HB2 := hide (bthen HBW.out hsW hb2)
  all_goals have hs2 := HB2.out.size
  all_goals clear ho2 hb2
  all_goals go_wp2_with fail
  all_goals (refine (c_encodeRice _ pr k _ HO2.out.rd HPS.out (by rw [HPL.out]; omega) hk).mono ?_; rw [HEN.out]; rintro e w3 ⟨rfl, hb3⟩)
  all_goals have HB3 := hide (bthen HB2.out hs2 hb3)
  all_goals have hs3 := HB3.out.size
  all_goals clear hb3
  all_goals go_wp2_with fail
  all_goals (refine (c_packed _ _ (by rw [size_mkS]; omega)).mono ?_; rw [data_mkS, HPK.out]; rintro e w4 ⟨rfl, hb4⟩)
  all_goals have HB4 := hide (bthen HB3.out hs3 hb4)
  all_goals have hs4 := HB4.out.size
  all_goals clear hb4
  all_goals go_wp2_with fail
  all_goals (rw [HCAT.out]; refine (c_checked _ _ hz3).mono ?_; rintro e w5 ⟨rfl, hb5⟩)
  all_goals have HB5 := hide (bthen HB4.out hs4 hb5)
  all_goals clear hb5
  all_goals go_wp2
  all_goals go_ret
  all_goals exact ⟨ret_str (by rw [HOD.out, HOK.out]; rfl), bthen HB0.out hs0 HB5.out⟩
/-- EncodeFrame: the frame and the code. -/
def encFrF (xs : List Int) : ByteArray × Int := if sigB xs then (if 256 < xs.length then (⟨#[]⟩, 5) else (frameS xs (ordR xs).1 (ordR xs).2, 0)) else (⟨#[]⟩, 1)
def EncFr (xs : List Int) (w : World) (e : Ending) (w' : World) : Prop := e = .returned (.tuple #[.string (encFrF xs).1, .int .i64 (encFrF xs).2]) ∧ Below w.heap.size w w'
theorem EncFr.mk {xs : List Int} {w w' : World} {a : ByteArray} {c : Int} (h : encFrF xs = (a, c)) (hb : Below w.heap.size w w') : EncFr xs w (.returned (.tuple #[.string a, .int .i64 c])) w' := ⟨by rw [h], hb⟩
end Go.Proofs.YtpmflkoepnanoaaGreat
