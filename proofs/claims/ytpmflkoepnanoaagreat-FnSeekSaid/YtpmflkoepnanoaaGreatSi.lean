/- FnSeek: the law. -/
import Derived.Test.YtpmflkoepnanoaaGreatSa
import Derived.Test.YtpmflkoepnanoaaGreatRa
import Derived.Test.YtpmflkoepnanoaaGreatJf
import Derived.Test.YtpmflkoepnanoaaGreatJn
import Derived.Test.YtpmflkoepnanoaaGreatKc
import Derived.Test.YtpmflkoepnanoaaGreatRs
import Derived.Test.YtpmflkoepnanoaaGreatJk
namespace Go.Proofs.YtpmflkoepnanoaaGreat
open Go.RowKit
theorem OwI.drk {E : TypeId} {w w' : World} {B : Nat} {v : Value} {xs : List Int} (h : OwI E w B v xs) (hd : Dr w w') : OwI E w' B v xs := by obtain ⟨n, rfl⟩ := hd; exact h
theorem RdI.drk {w w' : World} {v : Value} {xs : List Int} (h : RdI w v xs) (hd : Dr w w') : RdI w' v xs := by obtain ⟨n, rfl⟩ := hd; exact h
/-- All that the law needs of the store. -/
structure Seekd (xs : List Int) (f : Nat) (s : ByteArray) (t : List Nat) : Prop where
  st : storeF xs (f : Int) = (s, 0)
  pl : placesF s = (t.map (fun (x : Nat) => (x : Int)), 0)
  len : t.length = nch xs.length f + 1
  last : t[nch xs.length f]? = some s.size
  size : s.size ≤ 20000
  fr : ∀ k, k < nch xs.length f → ldFrF s (k : Int) = (chunkL xs f (k * f), 0)
  rp : ∀ k ys, k < nch xs.length f → (∀ y ∈ ys, Smp y) → ys.length = lenK xs.length f k → ∃ u, rplF s (k : Int) ys = (u, 0) ∧ u.size ≤ 1048576 ∧ ldSigF u = (newL xs (k * f) ys, 0)
theorem nch_few {n f : Nat} (hn : n ≤ 70) (hf : 16 ≤ f) : nch n f ≤ 6 := by
  have := (nch_lt (n := n) (f := f) (j := 6) hf).1
  have h4 : ¬ (6 * f < n) := by omega
  rcases Nat.lt_or_ge 6 (nch n f) with h | h
  · exact absurd (this h) h4
  · exact h
theorem catL_len (L : List (List UInt8)) (m : Nat) (h : ∀ F ∈ L, F.length ≤ m) : (catL L).length ≤ L.length * (m + 2) := by
  induction L with
  | nil => simp [catL_nil]
  | cons F M ih =>
    have h1 := h F (by simp)
    have h2 := ih fun G hG => h G (List.mem_cons_of_mem _ hG)
    rw [catL_cons, List.length_append, List.length_append, length_wordL, List.length_cons, Nat.add_mul]; omega
theorem seekd_of {xs : List Int} {f : Nat} (hs : ∀ x ∈ xs, Smp x) (hn : xs.length ≤ 70) (hf : 16 ≤ f ∧ f ≤ 25) : ∃ t, Seekd xs f (storeS xs f) t := by
  have hF := frs_store hs (show xs.length ≤ 4000 by omega) (show 16 ≤ f ∧ f ≤ 256 by omega)
  have hp := placesF_g hF
  have hcn : cntF (gS f xs.length (frL xs f)) = nch xs.length f := cnt_g (by omega) (by omega)
  have hlast := posL_at (frL xs f) 10 (nch xs.length f) (by rw [len_frL]; exact Nat.le_refl _)
  have hpl := posL_len (frL xs f) 10
  rw [len_frL] at hpl
  have h2 := nch_few hn hf.1
  have hsz : (storeS xs f).size ≤ 20000 := by
    have h1 := size_bodyTo hs (show f ≤ 256 by omega) (nch xs.length f)
    have h3 : nch xs.length f * 1672 ≤ 6 * 1672 := Nat.mul_le_mul_right _ h2
    unfold storeS
    rw [ByteArray.size_append, size_headS]; omega
  have hse : (storeS xs f).size = 10 + (catL (frL xs f)).length := by
    rw [storeS_g]; unfold gS; rw [size_mkS, List.length_append, length_headL]
  refine ⟨posL 10 (frL xs f), ?_, by rw [storeS_g]; exact hp, hpl, ?_, hsz, fun k hk => ?_, fun k ys hk hy hl => ?_⟩
  · unfold storeF; rw [if_pos (sigB_true.2 ⟨by omega, hs⟩), if_pos (inB_true.2 (by omega))]; rfl
  · rw [hlast, List.take_of_length_le (by rw [len_frL]; exact Nat.le_refl _), hse]
  · have := frK_store hs (show xs.length ≤ 4000 by omega) (show 16 ≤ f ∧ f ≤ 256 by omega) hk
    rw [storeS_g] at this ⊢
    rw [ldfr3 hp (by rw [hcn]; exact hk), this]
  · have hyl : ys.length ≤ 256 := by rw [hl]; unfold lenK; omega
    have hF2 := frs_set (k := k) (G := frB ys) hs (show xs.length ≤ 4000 by omega) (show 16 ≤ f ∧ f ≤ 256 by omega) (frB_len hy hyl)
    have h46 := gS_num (L := (frL xs f).set k (frB ys)) (show f < 65536 by omega) (show xs.length < 65536 by omega)
    refine ⟨_, rplF_store hs (by omega) (by omega) hy hk hl, ?_, ?_⟩
    · unfold gS
      rw [size_mkS, List.length_append, length_headL]
      have h5 := catL_len ((frL xs f).set k (frB ys)) 1670 (fun F hF => by
        rcases List.mem_or_eq_of_mem_set hF with h | rfl
        · simp only [frL, frTo, List.mem_map] at h
          obtain ⟨i, _, rfl⟩ := h
          have := size_frameS (smp_chunk hs f (i * f)) (Nat.le_trans (length_chunk _ _ _) (show f ≤ 256 by omega))
          unfold frB; rw [len_data]; omega
        · have := size_frameS hy hyl
          unfold frB; rw [len_data]; omega)
      rw [List.length_set, len_frL] at h5
      have : nch xs.length f * (1670 + 2) ≤ 6 * (1670 + 2) := Nat.mul_le_mul_right _ h2
      omega
    · rw [ldsig2 (placesF_g hF2), h46.2]
      exact range_new hs (by omega) (by omega) hy hk hl
set_option maxHeartbeats 400000 in
theorem c_WrapAdd (a : Int) (w : World) (ha : Smp a) : Calls Tryz.prog 19 #[.int .i64 a, .int .i64 12345] w fun e w' => e = .returned (.int .i64 (wrp (a + 12345))) ∧ w = w' := by
  go_enter Tryz.func19, Tryz.ntmps19
  go_wp2_with fail
  refine (c_l01Add a 12345 _ ha (by unfold Smp; omega)).mono ?_; rintro e _ ⟨rfl, rfl⟩
  go_wp2
  go_ret
  exact ⟨rfl, rfl⟩
/-- Samples that stand for new ones. -/
def bumpL (xs : List Int) : List Int := xs.map fun x => wrp (x + 12345)
theorem bump_snoc {xs : List Int} {fr j : Nat} {x : Int} (h : xs[fr + j]? = some x) : bumpL ((xs.drop fr).take (j + 1)) = bumpL ((xs.drop fr).take j) ++ [wrp (x + 12345)] := by
  have h2 : (xs.drop fr)[j]? = some x := by rw [List.getElem?_drop]; exact h
  unfold bumpL
  rw [take_snoc_of h2, List.map_append]; rfl
theorem own_some2 {E : TypeId} {w : World} {B n : Nat} {v : Value} {xs : List Int} (h : OwI E w B v xs) (hl : xs.length = n) (hn : 0 < n) : ∃ g cap, v = .slice (some ⟨g, 0, none⟩) n cap ∧ n ≤ cap ∧ cap ≤ 9223372036854775807 := by
  obtain ⟨g, cap, rfl, h1, _, _⟩ := h.form (by omega)
  obtain ⟨_, A, cap2, h2, _, h4, _⟩ := h.rd
  injection h2 with _ _ h5
  subst hl
  exact ⟨g, cap, rfl, h1, by omega⟩
set_option maxHeartbeats 8000000 in
set_option maxRecDepth 100000 in
theorem law_Seek (v1 v2 : Value) (c1 c2 : List UInt8) (w : World) (h1 : RdY w v1 c1) (h2 : RdY w v2 c2) : Calls Tryz.prog 4 #[v1, v2] w fun e w' => e = .returned (.bool true) ∧ Below w.heap.size w w' := by
  have H1 := hide h1; have H2 := hide h2
  clear h1 h2
  cases hlong : (decide (1048576 < c1.length) || decide (1048576 < c2.length))
  · have hl : c1.length ≤ 1048576 ∧ c2.length ≤ 1048576 := by simpa using hlong
    have HL := hide hlong; clear hlong
    go_enter Tryz.func4, Tryz.ntmps4
    go_wp2_with fail
    refine (c_v8Long _ _ c1 c2 _ H1.out H2.out).mono ?_; rw [HL.out]; rintro e _ ⟨rfl, rfl⟩
    go_wp2_with fail
    refine (c_E8Long _ c1 _ H1.out (by omega)).mono ?_; rintro e w1 ⟨va, xs, rfl, ho, hxs, hxl, hb⟩
    have HA1 := hide ho; have HXS := hide hxs; have HB1 := hide hb; have hs1 := hb.size; have HC1 := hide (H2.out.below hb); clear ho hxs hb
    go_wp2_with fail
    refine (c_v8At _ c2 0 10 _ HC1.out (by omega) (by omega) (by omega)).mono ?_; rintro e w2 ⟨x, rfl, hx, hd⟩
    obtain ⟨f, hf⟩ : ∃ f : Nat, 16 + x = f := ⟨_, rfl⟩
    have ef : (16 : Int) + (x : Int) = (f : Int) := by omega
    have hf1 : 16 ≤ f ∧ f ≤ 25 := by omega
    have HB2 := hide (Dr.below HB1.out hd); have HA2 : Sec (OwI 2 w2 w.heap.size va xs) := hide (OwI.drk HA1.out hd); have HC2 := hide (H2.out.below HB2.out); have hs2 := HB2.out.size; clear hd
    obtain ⟨t, hsk⟩ := seekd_of HXS.out hxl hf1
    generalize storeS xs f = s at *
    have hsz := hsk.size; have HSK := hide hsk; clear hsk hf hx
    obtain ⟨N, hN⟩ : ∃ N, nch xs.length f = N := ⟨_, rfl⟩
    have hN6 : N ≤ 6 := by rw [← hN]; exact nch_few hxl hf1.1
    have HN := hide hN
    have hNn : xs.length ≤ N * f := by rw [← hN]; exact nch_end hf1.1
    have HLT := hide (fun k => (nch_lt (n := xs.length) (f := f) (j := k) hf1.1)); rw [hN] at HLT
    have eDiv : ((xs.length : Int) + (f : Int) - 1) / (f : Int) = (N : Int) := by
      rw [← hN]; unfold nch
      have : (xs.length : Int) + (f : Int) - 1 = ((xs.length + f - 1 : Nat) : Int) := by omega
      rw [this]; exact (Int.natCast_ediv _ _).symm
    have hz : ((f : Int) == 0) = false := by simp; omega
    clear hN
    have KS : Sec (∀ w v, RdI w v xs → Calls Tryz.prog 15 #[v, .int .i64 (f : Int)] w fun e w' => e = .returned (.tuple #[.string s, .int .i64 0]) ∧ Below w.heap.size w w') := hide (fun w v hr => by
      have := c_sStoreSignal v xs (f : Int) w hr (by omega); unfold StoR at this; rw [HSK.out.st] at this; exact this)
    go_wp2_with fail
    refine (KS.out _ _ (OwI.rd HA2.out)).mono ?_; rintro e w3 ⟨rfl, hb⟩
    have HB3 := hide (bthen HB2.out hs2 hb); have HA3 := hide (own_all HA2.out hb); clear hb
    have hs3 := HB3.out.size
    go_wp2_with fail
    refine (c_iFr s _ _ (by omega) HSK.out.pl).mono ?_; rintro e w4 ⟨vp, rfl, ho, hb⟩
    have HB4 := hide (bthen HB3.out hs3 hb); have HA4 : Sec (OwI 2 w4 w.heap.size va xs) := hide (own_all HA3.out hb); have hcell := (OwI.rd ho).open_; clear hb ho
    have hs4 := HB4.out.size
    have htl : (t.map fun (x : Nat) => (x : Int)).length = N + 1 := by rw [List.length_map, HSK.out.len, HN.out]
    obtain ⟨Ap, capp, rfl, hcp1, hcp2, hx⟩ := hcell
    obtain ⟨bp, op, rfl, hbp, hce⟩ := hx N (s.size : Int) (by rw [List.getElem?_map, ← HN.out, HSK.out.last]; rfl)
    rw [htl] at hcp1 ⊢
    clear hx htl
    have hNI : (N : Int) < (N : Int) + 1 := by omega
    rcases Nat.eq_zero_or_pos xs.length with hx0 | hxp
    · have hN0 : ¬ (0 : Int) < (N : Int) := by
        intro h
        have := (HLT.out 0).1 (by omega)
        omega
      have hNb : ((N : Int) == 0) = true := by simp; omega
      have hxb : ((xs.length : Int) == 0) = true := by rw [hx0]; rfl
      obtain ⟨Aa, capa, rfl, hla, hca, _⟩ := (OwI.rd HA4.out).open_
      clear hx0
      go_wp2
      refine wp_loop_rounds 1 ?_
      rw [rounds_succ]
      go_wp2
      go_ret
      exact ⟨rfl, by first | exact HB4.out | exact below_drewN HB4.out _⟩
    obtain ⟨g, capa, rfl, hga1, hga2⟩ := own_some2 HA4.out rfl hxp
    go_wp2
    rw [eDiv]
    clear eDiv
    go_loopw [12, 13] (fun mv kv wr => ∃ k m : Nat, k ≤ N ∧ kv = .int .i64 (k : Int) ∧ mv = .int .i64 (m : Int) ∧ m = min (k * f) xs.length ∧ Below w.heap.size w wr ∧ Below w4.heap.size w4 wr) (fun _ kv _ => N - (intOf kv).toNat)
    case atStart => exact ⟨0, 0, Nat.zero_le _, rfl, rfl, by omega, by first | exact HB4.out | exact below_drewN HB4.out _, by first | exact Below.refl _ _ | exact below_drewN (Below.refl _ _) _⟩
    case round =>
      obtain ⟨k, m, hk, rfl, rfl, hm, hb, hbb⟩ := hrel
      have HB := hide hb; have HBB := hide hbb; have hsz2 := hbb.size; have hszw := hb.size; clear hb hbb
      by_cases hlt : k < N
      · have hlt3 : (k : Int) < (N : Int) := by omega
        have hkf := (HLT.out k).1 hlt
        have hmk : m = k * f := by omega
        have KL : Sec (∀ w, Calls Tryz.prog 18 #[.string s, .int .i64 (k : Int)] w (SlR (chunkL xs f (k * f), 0) w)) := hide (fun w => by rw [← HSK.out.fr k (by rw [HN.out]; exact hlt)]; exact c_iLoadFrame s (k : Int) w (by omega))
        have hcl : (chunkL xs f (k * f)).length = min f (xs.length - m) := by rw [chunk_len]; unfold lenK; rw [hmk]
        obtain ⟨L, hL⟩ : ∃ L, min f (xs.length - m) = L := ⟨_, rfl⟩
        obtain ⟨hi, hhi⟩ : ∃ hi, m + L = hi := ⟨_, rfl⟩
        have ehi : (m : Int) + (L : Int) = (hi : Int) := by omega
        have ecn : hi - m = L := by omega
        have hn1 : hi = min ((k + 1) * f) xs.length := by rw [Nat.add_mul, Nat.one_mul]; omega
        have hgt : ¬ (xs.length : Int) < (hi : Int) := by omega
        have hhiI : (hi : Int) ≤ (xs.length : Int) := by omega
        have hmh : (m : Int) ≤ (hi : Int) := by omega
        have hmc : (m : Int) < (capa : Int) := by omega
        have hmc2 : m < capa := by omega
        have hLz : ((L : Int) == 0) = false := by simp; omega
        have hch : (xs.drop m).take L = chunkL xs f (k * f) := by
          unfold chunkL
          rw [← hmk, ← hL]
          by_cases hq : f ≤ xs.length - m
          · rw [Nat.min_eq_left hq]
          · rw [Nat.min_eq_right (by omega), List.take_of_length_le (by rw [List.length_drop]; omega), List.take_of_length_le (by rw [List.length_drop]; omega)]
        rw [hL] at hcl
        have HCH := hide hch; have HN1 := hide hn1; clear hch hn1 hmk hm hL
        generalize chunkL xs f (k * f) = ch at *
        go_wp2_with fail
        refine (KL.out _).mono ?_; rintro e w6 ⟨vx, rfl, ho, hb⟩
        have HX6 : Sec (RdI w6 vx ch) := hide (OwI.rd ho); have HB6 := hide (bthen HB.out hszw hb); have HBB6 := hide (bthen HBB.out hsz2 hb); clear ho hb
        obtain ⟨Ax, cx, rfl, _, _, _⟩ := RdI.open_ HX6.out
        rw [hcl] at HX6 ⊢
        have HSUB : Sec (RdI w6 (.slice (some ⟨g, m, none⟩) L (capa - m)) ch) := hide (by have := RdI_sub0 (lo := m) (hi := hi) ((OwI.rd HA4.out).below HBB6.out) (by omega) (by omega); rw [ecn, HCH.out] at this; exact this)
        go_wp2_with fail
        have hcs := c_v8Same _ _ ch ch w6 HX6.out HSUB.out
        rw [decide_eq_true (rfl : ch = ch)] at hcs
        refine hcs.mono ?_
        rintro e w7 ⟨rfl, hd⟩; have HB7 := hide (Dr.below HB6.out hd); have HBB7 := hide (Dr.below HBB6.out hd); clear hd hcs
        go_wp2
        go_roundw
        case rel => exact ⟨k + 1, hi, by omega, by go_num, by go_num, HN1.out, HB7.out, HBB7.out⟩
        case measure => simp [intOf]; omega
      · have hkN : k = N := by omega
        have hmn : m = xs.length := by rw [hm, hkN]; omega
        have hkI : ¬ (k : Int) < (N : Int) := by omega
        clear hm hkN
        subst hmn
        have hN0 : 0 < N := by
          rcases Nat.eq_zero_or_pos N with h | h
          · rw [h, Nat.zero_mul] at hNn; omega
          · exact h
        have hNb : ((N : Int) == 0) = false := by simp; omega
        have HAr : Sec (OwI 2 wr w.heap.size (.slice (some ⟨g, 0, none⟩) xs.length capa) xs) := hide (own_all HA4.out HBB.out); have HCr := hide (H2.out.below HB.out)
        go_wp2_with fail
        refine (c_v8At _ c2 1 N _ HCr.out (by omega) (by omega) (by omega)).mono ?_; rintro e w5 ⟨q, rfl, hq, hd⟩
        have hqN : q < N := by omega
        have HB5 := hide (Dr.below HB.out hd); have HA5 := hide (OwI.drk HAr.out hd)
        clear hd hq HBB HAr HB HCr hszw hsz2
        have hs5 := HB5.out.size
        have hgl : g < w5.heap.size := (HA5.out.lt g rfl).2
        obtain ⟨fr, hfr⟩ : ∃ fr, q * f = fr := ⟨_, rfl⟩
        have hkf : fr < xs.length := by have := (HLT.out q).1 hqN; omega
        obtain ⟨to1, hto1⟩ : ∃ to1, fr + f = to1 := ⟨_, rfl⟩
        have hml : lenK xs.length f q = min f (xs.length - fr) := by unfold lenK; rw [hfr]
        have ekf : (q : Int) * (f : Int) = (fr : Int) := by rw [← hfr]; simp
        have eto : (fr : Int) + (f : Int) = (to1 : Int) := by omega
        have hgaI : (xs.length : Int) ≤ (capa : Int) := by omega
        have hfI : (fr : Int) ≤ (xs.length : Int) := by omega
        have hca0 : 0 < capa := by omega
        have HRP := hide (fun ys h1 h2 => HSK.out.rp q ys (by rw [HN.out]; exact hqN) h1 h2)
        rw [hfr, hml] at HRP
        clear hfr hml
        generalize wr = wo at *
        rcases (show xs.length < to1 ∨ to1 = xs.length ∨ to1 < xs.length by omega) with hto | hto | hto
        · have HMIN := hide (show xs.length - fr = min f (xs.length - fr) by omega)
          have hgt : (xs.length : Int) < (to1 : Int) := by omega
          have hft0 : fr ≤ xs.length := by omega
          go_wp2
          go_loopw [19, 20] (fun fv iv wx => ∃ i j : Nat, i = fr + j ∧ i ≤ xs.length ∧ iv = .int .i64 (i : Int) ∧ OwI 2 wx w5.heap.size fv (bumpL ((xs.drop fr).take j)) ∧ Below w.heap.size w wx ∧ Below w5.heap.size w5 wx) (fun _ iv _ => xs.length - (intOf iv).toNat)
          case atStart => exact ⟨fr, 0, rfl, by omega, rfl, by simpa [bumpL] using new_i64 w5, HB5.out.alloc HB5.out.size _, (Below.refl _ _).alloc (Nat.le_refl _) _⟩
          case round =>
            obtain ⟨i, j, hij, hile, rfl, ho, hb, hbb⟩ := hrel
            have HIJ := hide hij; clear hij
            have HO := hide ho; have HBx := hide hb; have HBy := hide hbb; have hszx := hbb.size; have hszz := hb.size; clear ho hb hbb
            have hlb : (bumpL ((xs.drop fr).take j)).length ≤ 70 := by unfold bumpL; rw [List.length_map, List.length_take, List.length_drop]; omega
            by_cases hlt2 : i < xs.length
            · have hi3 : (i : Int) < (xs.length : Int) := by omega
              have hi4 : (i : Int) < (xs.length : Int) := by omega
              obtain ⟨x9, hx9⟩ : ∃ x9, xs[i]? = some x9 := ⟨_, List.getElem?_eq_getElem (by omega)⟩
              have hc9 := (HBy.out.cell (p := ⟨g, i, none⟩) hgl).trans (OwI.cellN HA5.out hx9)
              have hglx : g < wr.heap.size := Nat.lt_of_lt_of_le hgl hszx
              have HSM := hide (HXS.out x9 (List.mem_of_getElem? hx9)); have HBU := hide (bump_snoc (xs := xs) (fr := fr) (j := j) (by rw [← HIJ.out]; exact hx9))
              clear hx9
              generalize bumpL ((xs.drop fr).take j) = BL at *
              go_wp2_with (first | (go_at_call 19; refine (c_WrapAdd x9 _ HSM.out).mono ?_; rintro e _ ⟨rfl, rfl⟩) | (at_builtin; refine app1_i64 rfl _ _ rfl rfl HO.out rfl (by omega) hszx ?_; intro v7 w7 ho7 hg7 hv7; have HO7 := hide ho7; have HBx7 := hide (below_own HBx.out HO.out hg7 hs5 (by omega)); have HBy7 := hide (below_own HBy.out HO.out hg7 (Nat.le_refl _) hszx); clear ho7 hg7 hv7))
              go_roundw
              case rel => exact ⟨i + 1, j + 1, by have := HIJ.out; omega, by omega, by go_num, by rw [HBU.out]; exact HO7.out, HBx7.out, HBy7.out⟩
              case measure => simp [intOf]; omega
            · have hi3 : ¬ (i : Int) < (xs.length : Int) := by omega
              have hj := hide (show j = xs.length - fr by have := HIJ.out; omega)
              have hFl : (bumpL ((xs.drop fr).take j)).length = min f (xs.length - fr) := by unfold bumpL; rw [List.length_map, List.length_take, List.length_drop]; have := hj.out; have := HMIN.out; omega
              have hFs : ∀ y ∈ bumpL ((xs.drop fr).take j), Smp y := fun y hy => by unfold bumpL at hy; simp only [List.mem_map] at hy; obtain ⟨z, _, rfl⟩ := hy; exact wrp_smp _
              obtain ⟨u, hu1, hu2, hu3⟩ := HRP.out _ hFs hFl
              generalize bumpL ((xs.drop fr).take j) = FR at *
              have KR : Sec (∀ w v, RdI w v FR → Calls Tryz.prog 20 #[.string s, .int .i64 (q : Int), v] w (StR (u, 0) w)) := hide (fun w v hr => by rw [← hu1]; exact c_iReplaceFrame s (q : Int) v FR w (by omega) hr)
              have hnw : newL xs fr FR = xs.take fr ++ FR ++ xs.drop xs.length := by unfold newL; congr 2; have := HMIN.out; omega
              have KL : Sec (∀ w, Calls Tryz.prog 21 #[.string u] w (SlR (xs.take fr ++ FR ++ xs.drop xs.length, 0) w)) := hide (fun w => by rw [← hnw, ← hu3]; exact c_sLoadSignal u w hu2)
              clear hu1 hu3 hnw hFs
              go_wp2_with fail
              refine (KR.out _ _ (OwI.rd HO.out)).mono ?_; rintro e w8 ⟨rfl, hb⟩
              have HA8 := hide (own_all (own_all HA5.out HBy.out) hb); have HF8 := hide (own_all HO.out hb); have HB8 := hide (bthen HBx.out hszz hb); clear hb
              have HB8' := HB8.out.size
              have HAH := hide (RdI_sub0 (OwI.rd HA8.out) (Nat.zero_le fr) (show fr ≤ xs.length by omega))
              rw [Nat.sub_zero, Nat.sub_zero, List.drop_zero] at HAH
              have HDE : Sec (xs.drop xs.length = []) := hide (List.drop_length)
              by_cases hxa : capa = xs.length
              all_goals
                first | subst hxa | (have hxa1 : (xs.length : Int) < (capa : Int) := (by omega); have hxa2 : xs.length < capa := (by omega))
                have HTA : ∀ A cp, cp ≤ 9223372036854775807 → RdI w8 (.slice A 0 cp) (xs.drop xs.length) := fun A cp h => by rw [HDE.out]; exact ⟨by simp, A, cp, rfl, by simp, h, fun hn => absurd hn (by simp)⟩
                go_wp2
                have HN9 := hide (show OwI 2 (w8.alloc (.cells #[] 2)).drew w8.heap.size (.slice (some ⟨w8.heap.size, 0, none⟩) 0 0) [] from new_i64 w8)
                have HBd := hide (Below.drew ((Below.refl w8.heap.size w8).alloc (Nat.le_refl _) (.cells #[] 2)))
                have HAH9 := hide (RdI.below HAH.out HBd.out)
                have hl1 : ([] : List Int).length + (xs.take fr).length ≤ 17592186044416 := by rw [List.length_take]; show 0 + _ ≤ _; omega
                have hl2 : (xs.take fr).length + FR.length ≤ 17592186044416 := by rw [List.length_take]; omega
                have hl3 : (xs.take fr ++ FR).length + (xs.drop xs.length).length ≤ 17592186044416 := by rw [List.length_append, List.length_take, List.length_drop]; omega
                have hb1 : w8.heap.size ≤ (w8.alloc (.cells #[] 2)).drew.heap.size := HBd.out.size
                have HL1 := hide hl1; have HL2 := hide hl2; have HL3 := hide hl3; have HBB1 := hide hb1; clear hl1 hl2 hl3 hb1
                go_region_held_law (fun _ => True) (trivial) (first | (refine step_i64 rfl _ _ rfl rfl HO10.out rfl (RdI.below (HTA _ _ (by omega)) HB10.out) HL3.out hs10 ?_; intro v11 w11 ho11 hg11 hv11; have HO11 := hide ho11; have HB11 := hide (below_own HB10.out HO10.out hg11 (Nat.le_refl _) hs10); have hs11 := HB11.out.size; clear ho11 hg11 hv11) | (refine step_i64 rfl _ _ rfl rfl HO9.out rfl (RdI.below (OwI.rd HF8.out) HB9.out) HL2.out hs9 ?_; intro v10 w10 ho10 hg10 hv10; have HO10 := hide ho10; have HB10 := hide (below_own HB9.out HO9.out hg10 (Nat.le_refl _) hs9); have hs10 := HB10.out.size; clear ho10 hg10 hv10) | (refine step_i64 rfl _ _ rfl rfl HN9.out rfl HAH9.out HL1.out HBB1.out ?_; intro v9 w9 ho9 hg9 hv9; have HO9 : Sec (OwI 2 w9 w8.heap.size v9 (xs.take fr)) := hide ho9; have HB9 := hide (below_own HBd.out HN9.out hg9 (Nat.le_refl _) HBB1.out); have hs9 := HB9.out.size; clear ho9 hg9 hv9))
                all_goals
                  go_wp2_with fail
                  refine (KL.out _).mono ?_; rintro e w12 ⟨vb, rfl, ho, hb⟩
                  have HVB := hide (OwI.rd ho); have HWT := hide (OwI.rd (own_all HO11.out hb)); have HB12 := hide (bthen (bthen HB8.out HB8.out.size HB11.out) (by have := HB8.out.size; omega) hb); clear ho hb
                  have hcs := c_v8Same _ _ _ _ w12 HVB.out HWT.out
                  rw [decide_eq_true rfl] at hcs
                  go_wp2_with fail
                  refine hcs.mono ?_; rintro e w13 ⟨rfl, hd⟩
                  have HB13 := hide (Dr.below HB12.out hd); clear hd hcs
                  go_wp2
                  go_ret
                  exact ⟨rfl, HB13.out⟩
        · have HMIN := hide (show xs.length - fr = min f (xs.length - fr) by omega)
          subst hto
          have hft0 : fr ≤ xs.length := by omega
          go_wp2
          go_loopw [19, 20] (fun fv iv wx => ∃ i j : Nat, i = fr + j ∧ i ≤ xs.length ∧ iv = .int .i64 (i : Int) ∧ OwI 2 wx w5.heap.size fv (bumpL ((xs.drop fr).take j)) ∧ Below w.heap.size w wx ∧ Below w5.heap.size w5 wx) (fun _ iv _ => xs.length - (intOf iv).toNat)
          case atStart => exact ⟨fr, 0, rfl, by omega, rfl, by simpa [bumpL] using new_i64 w5, HB5.out.alloc HB5.out.size _, (Below.refl _ _).alloc (Nat.le_refl _) _⟩
          case round =>
            obtain ⟨i, j, hij, hile, rfl, ho, hb, hbb⟩ := hrel
            have HIJ := hide hij; clear hij
            have HO := hide ho; have HBx := hide hb; have HBy := hide hbb; have hszx := hbb.size; have hszz := hb.size; clear ho hb hbb
            have hlb : (bumpL ((xs.drop fr).take j)).length ≤ 70 := by unfold bumpL; rw [List.length_map, List.length_take, List.length_drop]; omega
            by_cases hlt2 : i < xs.length
            · have hi3 : (i : Int) < (xs.length : Int) := by omega
              have hi4 : (i : Int) < (xs.length : Int) := by omega
              obtain ⟨x9, hx9⟩ : ∃ x9, xs[i]? = some x9 := ⟨_, List.getElem?_eq_getElem (by omega)⟩
              have hc9 := (HBy.out.cell (p := ⟨g, i, none⟩) hgl).trans (OwI.cellN HA5.out hx9)
              have hglx : g < wr.heap.size := Nat.lt_of_lt_of_le hgl hszx
              have HSM := hide (HXS.out x9 (List.mem_of_getElem? hx9)); have HBU := hide (bump_snoc (xs := xs) (fr := fr) (j := j) (by rw [← HIJ.out]; exact hx9))
              clear hx9
              generalize bumpL ((xs.drop fr).take j) = BL at *
              go_wp2_with (first | (go_at_call 19; refine (c_WrapAdd x9 _ HSM.out).mono ?_; rintro e _ ⟨rfl, rfl⟩) | (at_builtin; refine app1_i64 rfl _ _ rfl rfl HO.out rfl (by omega) hszx ?_; intro v7 w7 ho7 hg7 hv7; have HO7 := hide ho7; have HBx7 := hide (below_own HBx.out HO.out hg7 hs5 (by omega)); have HBy7 := hide (below_own HBy.out HO.out hg7 (Nat.le_refl _) hszx); clear ho7 hg7 hv7))
              go_roundw
              case rel => exact ⟨i + 1, j + 1, by have := HIJ.out; omega, by omega, by go_num, by rw [HBU.out]; exact HO7.out, HBx7.out, HBy7.out⟩
              case measure => simp [intOf]; omega
            · have hi3 : ¬ (i : Int) < (xs.length : Int) := by omega
              have hj := hide (show j = xs.length - fr by have := HIJ.out; omega)
              have hFl : (bumpL ((xs.drop fr).take j)).length = min f (xs.length - fr) := by unfold bumpL; rw [List.length_map, List.length_take, List.length_drop]; have := hj.out; have := HMIN.out; omega
              have hFs : ∀ y ∈ bumpL ((xs.drop fr).take j), Smp y := fun y hy => by unfold bumpL at hy; simp only [List.mem_map] at hy; obtain ⟨z, _, rfl⟩ := hy; exact wrp_smp _
              obtain ⟨u, hu1, hu2, hu3⟩ := HRP.out _ hFs hFl
              generalize bumpL ((xs.drop fr).take j) = FR at *
              have KR : Sec (∀ w v, RdI w v FR → Calls Tryz.prog 20 #[.string s, .int .i64 (q : Int), v] w (StR (u, 0) w)) := hide (fun w v hr => by rw [← hu1]; exact c_iReplaceFrame s (q : Int) v FR w (by omega) hr)
              have hnw : newL xs fr FR = xs.take fr ++ FR ++ xs.drop xs.length := by unfold newL; congr 2; have := HMIN.out; omega
              have KL : Sec (∀ w, Calls Tryz.prog 21 #[.string u] w (SlR (xs.take fr ++ FR ++ xs.drop xs.length, 0) w)) := hide (fun w => by rw [← hnw, ← hu3]; exact c_sLoadSignal u w hu2)
              clear hu1 hu3 hnw hFs
              go_wp2_with fail
              refine (KR.out _ _ (OwI.rd HO.out)).mono ?_; rintro e w8 ⟨rfl, hb⟩
              have HA8 := hide (own_all (own_all HA5.out HBy.out) hb); have HF8 := hide (own_all HO.out hb); have HB8 := hide (bthen HBx.out hszz hb); clear hb
              have HB8' := HB8.out.size
              have HAH := hide (RdI_sub0 (OwI.rd HA8.out) (Nat.zero_le fr) (show fr ≤ xs.length by omega))
              rw [Nat.sub_zero, Nat.sub_zero, List.drop_zero] at HAH
              have HDE : Sec (xs.drop xs.length = []) := hide (List.drop_length)
              by_cases hxa : capa = xs.length
              all_goals
                first | subst hxa | (have hxa1 : (xs.length : Int) < (capa : Int) := (by omega); have hxa2 : xs.length < capa := (by omega))
                have HTA : ∀ A cp, cp ≤ 9223372036854775807 → RdI w8 (.slice A 0 cp) (xs.drop xs.length) := fun A cp h => by rw [HDE.out]; exact ⟨by simp, A, cp, rfl, by simp, h, fun hn => absurd hn (by simp)⟩
                go_wp2
                have HN9 := hide (show OwI 2 (w8.alloc (.cells #[] 2)).drew w8.heap.size (.slice (some ⟨w8.heap.size, 0, none⟩) 0 0) [] from new_i64 w8)
                have HBd := hide (Below.drew ((Below.refl w8.heap.size w8).alloc (Nat.le_refl _) (.cells #[] 2)))
                have HAH9 := hide (RdI.below HAH.out HBd.out)
                have hl1 : ([] : List Int).length + (xs.take fr).length ≤ 17592186044416 := by rw [List.length_take]; show 0 + _ ≤ _; omega
                have hl2 : (xs.take fr).length + FR.length ≤ 17592186044416 := by rw [List.length_take]; omega
                have hl3 : (xs.take fr ++ FR).length + (xs.drop xs.length).length ≤ 17592186044416 := by rw [List.length_append, List.length_take, List.length_drop]; omega
                have hb1 : w8.heap.size ≤ (w8.alloc (.cells #[] 2)).drew.heap.size := HBd.out.size
                have HL1 := hide hl1; have HL2 := hide hl2; have HL3 := hide hl3; have HBB1 := hide hb1; clear hl1 hl2 hl3 hb1
                go_region_held_law (fun _ => True) (trivial) (first | (refine step_i64 rfl _ _ rfl rfl HO10.out rfl (RdI.below (HTA _ _ (by omega)) HB10.out) HL3.out hs10 ?_; intro v11 w11 ho11 hg11 hv11; have HO11 := hide ho11; have HB11 := hide (below_own HB10.out HO10.out hg11 (Nat.le_refl _) hs10); have hs11 := HB11.out.size; clear ho11 hg11 hv11) | (refine step_i64 rfl _ _ rfl rfl HO9.out rfl (RdI.below (OwI.rd HF8.out) HB9.out) HL2.out hs9 ?_; intro v10 w10 ho10 hg10 hv10; have HO10 := hide ho10; have HB10 := hide (below_own HB9.out HO9.out hg10 (Nat.le_refl _) hs9); have hs10 := HB10.out.size; clear ho10 hg10 hv10) | (refine step_i64 rfl _ _ rfl rfl HN9.out rfl HAH9.out HL1.out HBB1.out ?_; intro v9 w9 ho9 hg9 hv9; have HO9 : Sec (OwI 2 w9 w8.heap.size v9 (xs.take fr)) := hide ho9; have HB9 := hide (below_own HBd.out HN9.out hg9 (Nat.le_refl _) HBB1.out); have hs9 := HB9.out.size; clear ho9 hg9 hv9))
                all_goals
                  go_wp2_with fail
                  refine (KL.out _).mono ?_; rintro e w12 ⟨vb, rfl, ho, hb⟩
                  have HVB := hide (OwI.rd ho); have HWT := hide (OwI.rd (own_all HO11.out hb)); have HB12 := hide (bthen (bthen HB8.out HB8.out.size HB11.out) (by have := HB8.out.size; omega) hb); clear ho hb
                  have hcs := c_v8Same _ _ _ _ w12 HVB.out HWT.out
                  rw [decide_eq_true rfl] at hcs
                  go_wp2_with fail
                  refine hcs.mono ?_; rintro e w13 ⟨rfl, hd⟩
                  have HB13 := hide (Dr.below HB12.out hd); clear hd hcs
                  go_wp2
                  go_ret
                  exact ⟨rfl, HB13.out⟩
        · have HMIN := hide (show to1 - fr = min f (xs.length - fr) by omega)
          have hgt : ¬ (xs.length : Int) < (to1 : Int) := by omega
          have htI : (to1 : Int) ≤ (xs.length : Int) := by omega
          go_wp2
          rw [show decide (xs.length < to1) = false from decide_eq_false (by omega)]
          go_loopw [19, 20] (fun fv iv wx => ∃ i j : Nat, i = fr + j ∧ i ≤ to1 ∧ iv = .int .i64 (i : Int) ∧ OwI 2 wx w5.heap.size fv (bumpL ((xs.drop fr).take j)) ∧ Below w.heap.size w wx ∧ Below w5.heap.size w5 wx) (fun _ iv _ => to1 - (intOf iv).toNat)
          case atStart => exact ⟨fr, 0, rfl, by omega, rfl, by simpa [bumpL] using new_i64 w5, HB5.out.alloc HB5.out.size _, (Below.refl _ _).alloc (Nat.le_refl _) _⟩
          case round =>
            obtain ⟨i, j, hij, hile, rfl, ho, hb, hbb⟩ := hrel
            have HIJ := hide hij; clear hij
            have HO := hide ho; have HBx := hide hb; have HBy := hide hbb; have hszx := hbb.size; have hszz := hb.size; clear ho hb hbb
            have hlb : (bumpL ((xs.drop fr).take j)).length ≤ 70 := by unfold bumpL; rw [List.length_map, List.length_take, List.length_drop]; omega
            by_cases hlt2 : i < to1
            · have hi3 : (i : Int) < (to1 : Int) := by omega
              have hi4 : (i : Int) < (xs.length : Int) := by omega
              obtain ⟨x9, hx9⟩ : ∃ x9, xs[i]? = some x9 := ⟨_, List.getElem?_eq_getElem (by omega)⟩
              have hc9 := (HBy.out.cell (p := ⟨g, i, none⟩) hgl).trans (OwI.cellN HA5.out hx9)
              have hglx : g < wr.heap.size := Nat.lt_of_lt_of_le hgl hszx
              have HSM := hide (HXS.out x9 (List.mem_of_getElem? hx9)); have HBU := hide (bump_snoc (xs := xs) (fr := fr) (j := j) (by rw [← HIJ.out]; exact hx9))
              clear hx9
              generalize bumpL ((xs.drop fr).take j) = BL at *
              go_wp2_with (first | (go_at_call 19; refine (c_WrapAdd x9 _ HSM.out).mono ?_; rintro e _ ⟨rfl, rfl⟩) | (at_builtin; refine app1_i64 rfl _ _ rfl rfl HO.out rfl (by omega) hszx ?_; intro v7 w7 ho7 hg7 hv7; have HO7 := hide ho7; have HBx7 := hide (below_own HBx.out HO.out hg7 hs5 (by omega)); have HBy7 := hide (below_own HBy.out HO.out hg7 (Nat.le_refl _) hszx); clear ho7 hg7 hv7))
              go_roundw
              case rel => exact ⟨i + 1, j + 1, by have := HIJ.out; omega, by omega, by go_num, by rw [HBU.out]; exact HO7.out, HBx7.out, HBy7.out⟩
              case measure => simp [intOf]; omega
            · have hi3 : ¬ (i : Int) < (to1 : Int) := by omega
              have hj := hide (show j = to1 - fr by have := HIJ.out; omega)
              have hFl : (bumpL ((xs.drop fr).take j)).length = min f (xs.length - fr) := by unfold bumpL; rw [List.length_map, List.length_take, List.length_drop]; have := hj.out; have := HMIN.out; omega
              have hFs : ∀ y ∈ bumpL ((xs.drop fr).take j), Smp y := fun y hy => by unfold bumpL at hy; simp only [List.mem_map] at hy; obtain ⟨z, _, rfl⟩ := hy; exact wrp_smp _
              obtain ⟨u, hu1, hu2, hu3⟩ := HRP.out _ hFs hFl
              generalize bumpL ((xs.drop fr).take j) = FR at *
              have KR : Sec (∀ w v, RdI w v FR → Calls Tryz.prog 20 #[.string s, .int .i64 (q : Int), v] w (StR (u, 0) w)) := hide (fun w v hr => by rw [← hu1]; exact c_iReplaceFrame s (q : Int) v FR w (by omega) hr)
              have hnw : newL xs fr FR = xs.take fr ++ FR ++ xs.drop to1 := by unfold newL; congr 2; have := HMIN.out; omega
              have KL : Sec (∀ w, Calls Tryz.prog 21 #[.string u] w (SlR (xs.take fr ++ FR ++ xs.drop to1, 0) w)) := hide (fun w => by rw [← hnw, ← hu3]; exact c_sLoadSignal u w hu2)
              clear hu1 hu3 hnw hFs
              go_wp2_with fail
              refine (KR.out _ _ (OwI.rd HO.out)).mono ?_; rintro e w8 ⟨rfl, hb⟩
              have HA8 := hide (own_all (own_all HA5.out HBy.out) hb); have HF8 := hide (own_all HO.out hb); have HB8 := hide (bthen HBx.out hszz hb); clear hb
              have HB8' := HB8.out.size
              have HAH := hide (RdI_sub0 (OwI.rd HA8.out) (Nat.zero_le fr) (show fr ≤ xs.length by omega))
              rw [Nat.sub_zero, Nat.sub_zero, List.drop_zero] at HAH
              obtain ⟨tl, htl⟩ : ∃ tl, xs.length - to1 = tl := ⟨_, rfl⟩
              have etl : (xs.length : Int) - (to1 : Int) = (tl : Int) := by omega
              have hta : (to1 : Int) < (capa : Int) := by omega
              have hta2 : to1 < capa := by omega
              have HTA : Sec (RdI w8 (.slice (some ⟨g, to1, none⟩) tl (capa - to1)) (xs.drop to1)) := hide (by have := RdI_sub0 (OwI.rd HA8.out) (lo := to1) (hi := xs.length) (by omega) (Nat.le_refl _); rw [htl, List.take_of_length_le (by rw [List.length_drop]; omega)] at this; exact this)
              go_wp2
              have HN9 := hide (show OwI 2 (w8.alloc (.cells #[] 2)).drew w8.heap.size (.slice (some ⟨w8.heap.size, 0, none⟩) 0 0) [] from new_i64 w8)
              have HBd := hide (Below.drew ((Below.refl w8.heap.size w8).alloc (Nat.le_refl _) (.cells #[] 2)))
              have HAH9 := hide (RdI.below HAH.out HBd.out)
              have hl1 : ([] : List Int).length + (xs.take fr).length ≤ 17592186044416 := by rw [List.length_take]; show 0 + _ ≤ _; omega
              have hl2 : (xs.take fr).length + FR.length ≤ 17592186044416 := by rw [List.length_take]; omega
              have hl3 : (xs.take fr ++ FR).length + (xs.drop to1).length ≤ 17592186044416 := by rw [List.length_append, List.length_take, List.length_drop]; omega
              have hb1 : w8.heap.size ≤ (w8.alloc (.cells #[] 2)).drew.heap.size := HBd.out.size
              have HL1 := hide hl1; have HL2 := hide hl2; have HL3 := hide hl3; have HBB1 := hide hb1; clear hl1 hl2 hl3 hb1
              go_region_held_law (fun _ => True) (trivial) (first | (refine step_i64 rfl _ _ rfl rfl HO10.out rfl (RdI.below HTA.out HB10.out) HL3.out hs10 ?_; intro v11 w11 ho11 hg11 hv11; have HO11 := hide ho11; have HB11 := hide (below_own HB10.out HO10.out hg11 (Nat.le_refl _) hs10); have hs11 := HB11.out.size; clear ho11 hg11 hv11) | (refine step_i64 rfl _ _ rfl rfl HO9.out rfl (RdI.below (OwI.rd HF8.out) HB9.out) HL2.out hs9 ?_; intro v10 w10 ho10 hg10 hv10; have HO10 := hide ho10; have HB10 := hide (below_own HB9.out HO9.out hg10 (Nat.le_refl _) hs9); have hs10 := HB10.out.size; clear ho10 hg10 hv10) | (refine step_i64 rfl _ _ rfl rfl HN9.out rfl HAH9.out HL1.out HBB1.out ?_; intro v9 w9 ho9 hg9 hv9; have HO9 : Sec (OwI 2 w9 w8.heap.size v9 (xs.take fr)) := hide ho9; have HB9 := hide (below_own HBd.out HN9.out hg9 (Nat.le_refl _) HBB1.out); have hs9 := HB9.out.size; clear ho9 hg9 hv9))
              all_goals
                go_wp2_with fail
                refine (KL.out _).mono ?_; rintro e w12 ⟨vb, rfl, ho, hb⟩
                have HVB := hide (OwI.rd ho); have HWT := hide (OwI.rd (own_all HO11.out hb)); have HB12 := hide (bthen (bthen HB8.out HB8.out.size HB11.out) (by have := HB8.out.size; omega) hb); clear ho hb
                have hcs := c_v8Same _ _ _ _ w12 HVB.out HWT.out
                rw [decide_eq_true rfl] at hcs
                go_wp2_with fail
                refine hcs.mono ?_; rintro e w13 ⟨rfl, hd⟩
                have HB13 := hide (Dr.below HB12.out hd); clear hd hcs
                go_wp2
                go_ret
                exact ⟨rfl, HB13.out⟩
  · have HL := hide hlong; clear hlong
    go_enter Tryz.func4, Tryz.ntmps4
    go_wp2_with fail
    refine (c_v8Long _ _ c1 c2 _ H1.out H2.out).mono ?_; rw [HL.out]; rintro e _ ⟨rfl, rfl⟩
    go_wp2
    go_ret
    exact ⟨rfl, Below.refl _ _⟩
end Go.Proofs.YtpmflkoepnanoaaGreat
