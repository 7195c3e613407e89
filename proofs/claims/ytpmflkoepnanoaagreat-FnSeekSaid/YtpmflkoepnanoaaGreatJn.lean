/- Contract: a frame of a store that is replaced. -/
import Derived.Test.YtpmflkoepnanoaaGreatJm
namespace Go.Proofs.YtpmflkoepnanoaaGreat
open Go.RowKit
set_option maxHeartbeats 2000000 in
set_option maxRecDepth 100000 in
theorem c_iReplaceFrame (s : ByteArray) (k : Int) (v : Value) (xs : List Int) (w : World) (hs : s.size ≤ 1048576) (hr : RdI w v xs) : Calls Tryz.prog 20 #[.string s, .int .i64 k, v] w (StR (rplF s k xs) w) := by
  have HR := hide hr
  obtain ⟨A0, cap0, rfl, hl0, hc0, _⟩ := hr.open_
  clear hr
  cases hsg : sigB xs
  · have HE := hide (rpl1 (s := s) (k := k) hsg)
    go_enter Tryz.func20, Tryz.ntmps20
    go_wp2_with fail
    refine (openW_no s _ _ HR.out hsg).mono ?_; rintro e w1 ⟨t, n, f, A, l, cap, rfl, hb1⟩
    have HB1 := hide hb1; have hsz1 := hb1.size; clear hb1
    go_wp2
    go_ret2
    exact StR.mk HE.out (HB1.out.alloc hsz1 _)
  · have hsg2 := (sigB_true.1 hsg).1
    have HSS := hide (sigB_true.1 hsg).2
    have hxl : xs.length ≤ 4000 := by simpa using hsg2
    obtain ⟨ps, c, hp⟩ : ∃ ps c, placesF s = (ps, c) := ⟨_, _, rfl⟩
    by_cases hc : c = 0
    · subst hc
      obtain ⟨t, rfl, HO⟩ := opn_of hp hs
      have HPL := hide (fun v w h => openW_ok hp v w (by omega) h hsg)
      have hlen : (t.map (fun (n : Nat) => (n : Int))).length = cntF s + 1 := by rw [List.length_map]; exact HO.len
      have hcnt := HO.cnt
      have HCO := hide (fun v w h => iCount HO v w h)
      cases hk : inB k 0 ((cntF s : Int) - 1)
      · have HE := hide (rpl3 hsg hp hk)
        clear HO hp
        generalize cntF s = C at *
        generalize numS s 6 = n at *
        generalize numS s 4 = f at *
        go_enter Tryz.func20, Tryz.ntmps20
        go_wp2_with fail
        refine (HPL.out _ _ HR.out).mono ?_; rintro e w1 ⟨A, cap, rfl, ho1, hb1⟩
        have HB1 := hide hb1; have HO1 := hide ho1; have hsz1 := hb1.size; clear hb1 ho1
        rw [hlen] at HO1 ⊢
        have HAL := hide ((Below.refl w1.heap.size w1).alloc (Nat.le_refl _) (.cells #[.string s, .int .i64 (n : Int), .int .i64 (f : Int), .slice A (C + 1) cap] 50))
        go_wp2_with fail
        refine (HCO.out _ _ (HO1.out.rd.below HAL.out)).mono ?_; rintro e w2 ⟨rfl, hb2⟩
        have HB2 := hide (HB1.out.trans ((HAL.out.trans (hb2.mono HAL.out.size)).mono hsz1)); clear hb2
        go_wp2_with (go_at_call 25; refine (c_within _ _ _ _).mono ?_; rintro e w' ⟨rfl, rfl⟩)
        go_ret2
        exact StR.mk HE.out HB2.out
      · have hk2 := inB_true.1 hk
        obtain ⟨j, rfl⟩ := Int.eq_ofNat_of_zero_le hk2.1
        have hj : j < cntF s := by omega
        have HLE := hide (fun v w h' => iLength HO hj v w h')
        have hf2 := HO.f2
        have hmb : lenK (numS s 6) (numS s 4) j ≤ 256 := by unfold lenK; omega
        have HE5 := hide (fun hl => rpl5 hsg hp hk hl)
        have HE4 := hide (fun hl => rpl4 hsg hp hk hl)
        obtain ⟨hp1, hp2⟩ := HO.le hj
        have HCE := hide (fun (w : World) A l cap h => HO.cells hj (w := w) (A := A) (l := l) (cap := cap) h)
        have hz1 : (s.extract 0 (plc s j)).size ≤ 1048576 := by rw [ByteArray.size_extract]; omega
        have hz2 : (s.extract (plc s (j + 1)) s.size).size ≤ 1048576 := by rw [ByteArray.size_extract]; omega
        clear HO hp
        generalize hm : lenK (numS s 6) (numS s 4) j = m at *
        clear hm
        generalize plc s j = P1 at *
        generalize plc s (j + 1) = P2 at *
        generalize cntF s = C at *
        generalize numS s 6 = n at *
        generalize numS s 4 = f at *
        by_cases hl : xs.length = m
        · have HE := hide (HE5.out hl)
          have HENC := hide (fun w h => c_encodeFrame (.slice A0 xs.length cap0) xs w h HSS.out hxl)
          have hbz := size_bodyS HSS.out (by omega)
          have hfz := (size_frameS HSS.out (by omega)).1
          have HBD := hide (show mkS (wordL (frameS xs (ordR xs).1 (ordR xs).2).size) ++ frameS xs (ordR xs).1 (ordR xs).2 = bodyS xs from rfl)
          generalize hbs : bodyS xs = bs at *
          generalize hfm : frameS xs (ordR xs).1 (ordR xs).2 = fm at *
          have HBS := hide hbs; have HFM := hide hfm; clear hbs hfm HE4 HE5
          subst hl
          generalize hx1 : s.extract 0 P1 = x1 at *
          generalize hx2 : s.extract P2 s.size = x2 at *
          have hz3 : x1.size + bs.size ≤ 9223372036854775807 := by omega
          have hz4 : (x1 ++ bs).size + x2.size ≤ 9223372036854775807 := by rw [ByteArray.size_append]; omega
          have hz5 : x1.size + bs.size + x2.size ≤ 9223372036854775807 := by omega
          clear hz1 hz2
          have a1 : (j : Int) < (C : Int) + 1 := by omega
          have a2 : (j : Int) + 1 < (C : Int) + 1 := by omega
          have a4 : ((j : Int) + 1).toNat = j + 1 := by omega
          have a6 : (0 : Int) ≤ (j : Int) + 1 := by omega
          have a7 : IntKind.i64.wrap ((j : Int) + 1) = (j : Int) + 1 := IntWalk.i64_in _ (by omega)
          have a9 : (P1 : Int) ≤ (s.size : Int) := by omega
          have a10 : (P2 : Int) ≤ (s.size : Int) := by omega
          go_enter Tryz.func20, Tryz.ntmps20
          go_wp2_with fail
          refine (HPL.out _ _ HR.out).mono ?_; rintro e w1 ⟨A, cap, rfl, ho1, hb1⟩
          have HB1 := hide hb1; have HO1 := hide ho1; have hsz1 := hb1.size; clear hb1 ho1
          rw [hlen] at HO1 ⊢
          have HAL := hide ((Below.refl w1.heap.size w1).alloc (Nat.le_refl _) (.cells #[.string s, .int .i64 (n : Int), .int .i64 (f : Int), .slice A (C + 1) cap] 50))
          go_wp2_with fail
          refine (HCO.out _ _ (HO1.out.rd.below HAL.out)).mono ?_; rintro e w2 ⟨rfl, hb2⟩
          have hbk := (Bk.born w1 50 #[.string s, .int .i64 (n : Int), .int .i64 (f : Int), .slice A (C + 1) cap]).below hb2 (by simp)
          have k0 := hbk.cell 0; have k1 := hbk.cell 1; have k2 := hbk.cell 2; have k3 := hbk.cell 3
          simp at k0 k1 k2 k3
          have HBK := hide hbk
          have HB2 := hide (HB1.out.trans ((HAL.out.trans (hb2.mono HAL.out.size)).mono hsz1))
          have HRD := hide ((HO1.out.rd.below HAL.out).below hb2)
          have hs2 : w1.heap.size + 1 ≤ w2.heap.size := by have := hb2.size; simpa using this
          have HRX : Sec (RdI w2 (.slice A0 xs.length cap0) xs) := hide (HR.out.below HB2.out)
          clear hb2 hbk
          go_wp2_with (go_at_call 25; refine (c_within _ _ _ _).mono ?_; rintro e w' ⟨rfl, rfl⟩)
          go_region_held3 (fun w' => w'.cell? ⟨w1.heap.size, 0, none⟩ = some (.string s) ∧ w'.cell? ⟨w1.heap.size, 1, none⟩ = some (.int .i64 (n : Int)) ∧ w'.cell? ⟨w1.heap.size, 2, none⟩ = some (.int .i64 (f : Int)) ∧ w'.cell? ⟨w1.heap.size, 3, none⟩ = some (.slice A (C + 1) cap)) (first | go_keep | (refine ⟨(hb3.cell ?_).trans ?_, (hb3.cell ?_).trans ?_, (hb3.cell ?_).trans ?_, (hb3.cell ?_).trans ?_⟩ <;> first | assumption | (simp [*]; done) | (simp; omega))) (first | (go_at_call 41; refine (HLE.out _ _ (by exact HRD.out)).mono ?_; rintro e w3 ⟨rfl, hb3⟩) | (go_at_call 27; refine (c_size _ xs _ (by first | exact HRX.out | exact RdI.below (show RdI w2.drew _ _ from HRX.out) hb3)).mono ?_; rintro e w' ⟨rfl, rfl⟩))
          have hbk3 := HBK.out.below (undrew hb3) (by omega)
          have d0 := hbk3.cell 0; have d1 := hbk3.cell 1; have d2 := hbk3.cell 2; have d3 := hbk3.cell 3
          simp at d0 d1 d2 d3
          have HB3 := hide (bthen HB2.out (by omega) (undrew hb3))
          have hs3 : w2.heap.size ≤ w3.heap.size := (undrew hb3).size
          obtain ⟨b, off, rfl, hbw, ca, cb, _, hlc, hcc⟩ := HCE.out _ _ _ _ (HRD.out.below (undrew hb3))
          have HRX3 := hide (HR.out.below HB3.out)
          clear hb3 hbk3 k0 k1 k2 k3
          go_wp2_with fail
          go_region_held (fun w' => w'.cell? ⟨w1.heap.size, 3, none⟩ = some (.slice (some ⟨b, off, none⟩) (C + 1) cap) ∧ w'.cell? ⟨b, off + j, none⟩ = some (.int .i64 (P1 : Int)) ∧ w'.cell? ⟨b, off + (j + 1), none⟩ = some (.int .i64 (P2 : Int))) (first | go_keep | (refine ⟨(hb5.cell ?_).trans ?_, (hb5.cell ?_).trans ?_, (hb5.cell ?_).trans ?_⟩ <;> first | assumption | (simp [*]; done) | (simp; omega) | omega) | (refine ⟨(hb4.cell ?_).trans ?_, (hb4.cell ?_).trans ?_, (hb4.cell ?_).trans ?_⟩ <;> first | assumption | (simp [*]; done) | (simp; omega) | omega)) (first | (go_at_call 43; refine (HENC.out _ (by exact HRX3.out)).mono ?_; rintro e w4 ⟨rfl, hb4⟩; have hs4 : w3.heap.size ≤ w4.heap.size := hb4.size) | (go_at_call 42; refine (c_framed fm _ (by omega)).mono ?_; rw [HBD.out]; rintro e w5 ⟨rfl, hb5⟩))
          have HB4 := hide (bthen HB3.out (by omega) (undrew hb4))
          have HB5 := hide (bthen HB4.out (by omega) hb5); clear hb4 hb5
          go_wp2
          go_ret2
          exact StR.mk HE.out HB5.out
        · have HE := hide (HE4.out hl)
          have hmi : ((xs.length : Int) != (m : Int)) = true := by simp; omega
          clear HE4 HE5 hl
          go_enter Tryz.func20, Tryz.ntmps20
          go_wp2_with fail
          refine (HPL.out _ _ HR.out).mono ?_; rintro e w1 ⟨A, cap, rfl, ho1, hb1⟩
          have HB1 := hide hb1; have HO1 := hide ho1; have hsz1 := hb1.size; clear hb1 ho1
          rw [hlen] at HO1 ⊢
          have HAL := hide ((Below.refl w1.heap.size w1).alloc (Nat.le_refl _) (.cells #[.string s, .int .i64 (n : Int), .int .i64 (f : Int), .slice A (C + 1) cap] 50))
          go_wp2_with fail
          refine (HCO.out _ _ (HO1.out.rd.below HAL.out)).mono ?_; rintro e w2 ⟨rfl, hb2⟩
          have hbk := (Bk.born w1 50 #[.string s, .int .i64 (n : Int), .int .i64 (f : Int), .slice A (C + 1) cap]).below hb2 (by simp)
          have k0 := hbk.cell 0; have k1 := hbk.cell 1; have k2 := hbk.cell 2; have k3 := hbk.cell 3
          simp at k0 k1 k2 k3
          have HBK := hide hbk
          have HB2 := hide (HB1.out.trans ((HAL.out.trans (hb2.mono HAL.out.size)).mono hsz1))
          have HRD := hide ((HO1.out.rd.below HAL.out).below hb2)
          have hs2 : w1.heap.size + 1 ≤ w2.heap.size := by have := hb2.size; simpa using this
          have HRX : Sec (RdI w2 (.slice A0 xs.length cap0) xs) := hide (HR.out.below HB2.out)
          clear hb2 hbk
          go_wp2_with (go_at_call 25; refine (c_within _ _ _ _).mono ?_; rintro e w' ⟨rfl, rfl⟩)
          go_region_held3 (fun w' => w'.cell? ⟨w1.heap.size, 0, none⟩ = some (.string s) ∧ w'.cell? ⟨w1.heap.size, 1, none⟩ = some (.int .i64 (n : Int)) ∧ w'.cell? ⟨w1.heap.size, 2, none⟩ = some (.int .i64 (f : Int)) ∧ w'.cell? ⟨w1.heap.size, 3, none⟩ = some (.slice A (C + 1) cap)) (first | go_keep | (refine ⟨(hb3.cell ?_).trans ?_, (hb3.cell ?_).trans ?_, (hb3.cell ?_).trans ?_, (hb3.cell ?_).trans ?_⟩ <;> first | assumption | (simp [*]; done) | (simp; omega))) (first | (go_at_call 41; refine (HLE.out _ _ (by exact HRD.out)).mono ?_; rintro e w3 ⟨rfl, hb3⟩) | (go_at_call 27; refine (c_size _ xs _ (by first | exact HRX.out | exact RdI.below (show RdI w2.drew _ _ from HRX.out) hb3)).mono ?_; rintro e w' ⟨rfl, rfl⟩))
          have HB3 := hide (bthen HB2.out (by omega) (undrew hb3))
          clear hb3
          go_wp2
          go_ret2
          exact StR.mk HE.out HB3.out
    · have HE := hide (rpl2 (k := k) hsg hp hc)
      have HPL := hide (fun v w h => openW_err hp hc v w (by omega) h hsg)
      have ht : (c != 0) = true := by simpa using hc
      clear hp hc
      go_enter Tryz.func20, Tryz.ntmps20
      go_wp2_with fail
      refine (HPL.out _ _ HR.out).mono ?_; rintro e w1 ⟨t, n, f, A, l, cap, rfl, hb1⟩
      have HB1 := hide hb1; have hsz1 := hb1.size; clear hb1
      go_wp2
      go_ret2
      exact StR.mk HE.out (HB1.out.alloc hsz1 _)
end Go.Proofs.YtpmflkoepnanoaaGreat
