/- FnCodec: the law. -/
import Derived.Test.YtpmflkoepnanoaaDoorOc
import Derived.Test.YtpmflkoepnanoaaDoorWa
import Derived.Test.YtpmflkoepnanoaaDoorQa
import Derived.Test.YtpmflkoepnanoaaDoorRa
import Derived.Test.YtpmflkoepnanoaaDoorRs
namespace Go.Proofs.YtpmflkoepnanoaaDoor
open Go.RowKit
theorem OwI.drc {E : TypeId} {w w' : World} {B : Nat} {v : Value} {xs : List Int} (h : OwI E w B v xs) (hd : Dr w w') : OwI E w' B v xs := by obtain ⟨n, rfl⟩ := hd; exact h
theorem ricP_enc {xs : List Int} {k : Nat} (hs : ∀ x ∈ xs, Smp x) (hn : xs.length ≤ 4000) (hk : k ≤ 30) : ricP (mkS (encL xs k ++ [49])) (xs.length : Int) (k : Int) = (xs, lenF xs k, 0) := by
  have hb : bitsB (mkS (encL xs k ++ [49])) = true := by
    rw [bitsB_true, data_mkS]
    intro b hb
    rcases List.mem_append.1 hb with h | h
    · exact bits_encL xs k b h
    · simp at h; exact .inr h
  have hd := decF_enc (k := k) [49] xs [] [] hs
  simp only [List.nil_append, List.length_nil, Nat.zero_add] at hd
  unfold ricP
  rw [if_pos hb, if_pos (by rw [inB_true.2 (by omega), inB_true.2 (by omega)]; rfl), data_mkS]
  simp only [Int.toNat_natCast]
  rw [hd]
  simp only
  rw [length_encL hs]
set_option maxHeartbeats 1000000 in
theorem c_sRiceLen (v : Value) (xs : List Int) (k : Nat) (w : World) (hr : RdI w v xs) (hs : sigB xs = true) (hk : k ≤ 30) :
    Calls Tryd.prog 23 #[v, .int .i64 (k : Int)] w fun e w' => e = .returned (.tuple #[.int .i64 (lenF xs k), .int .i64 0]) ∧ w = w' := by
  have HR := hide hr; have HS := hide hs; have HSS := hide (sigB_true.1 hs)
  have hi : inB (k : Int) 0 30 = true := inB_true.2 (by omega)
  clear hr hs
  go_enter Tryd.func23, Tryd.ntmps23
  go_wp2_with fail
  refine (c_l03Ok _ xs _ HR.out).mono ?_; rw [HS.out]; rintro e _ ⟨rfl, rfl⟩
  go_wp2_with fail
  refine (c_l00In _ _ _ _).mono ?_; rw [hi]; rintro e _ ⟨rfl, rfl⟩
  go_wp2_with fail
  have hrl := c_l29Length _ xs k _ HR.out HSS.out.2 (by have := HSS.out.1; omega) hk
  refine hrl.mono ?_
  rintro e w2 ⟨rfl, rfl⟩
  clear hrl
  go_wp2
  go_ret2
  exact ⟨rfl, rfl⟩
set_option maxHeartbeats 1500000 in
set_option maxRecDepth 100000 in
theorem law_Codec (v1 v2 : Value) (c1 c2 : List UInt8) (w : World) (h1 : RdY w v1 c1) (h2 : RdY w v2 c2) : Calls Tryd.prog 5 #[v1, v2] w fun e w' => e = .returned (.bool true) ∧ Below w.heap.size w w' := by
  have H1 := hide h1; have H2 := hide h2
  clear h1 h2
  cases hlong : (decide (1048576 < c1.length) || decide (1048576 < c2.length))
  · have hl : c1.length ≤ 1048576 ∧ c2.length ≤ 1048576 := by simpa using hlong
    have HL := hide hlong; clear hlong
    go_enter Tryd.func5, Tryd.ntmps5
    go_wp2_with fail
    refine (c_v8Long _ _ c1 c2 _ H1.out H2.out).mono ?_; rw [HL.out]; rintro e _ ⟨rfl, rfl⟩
    go_wp2_with fail
    refine (c_E8Signal _ c1 20 _ H1.out (by omega) (by omega)).mono ?_; rintro e w1 ⟨va, xs, rfl, ho, hxs, hxl, hb⟩
    have HA1 := hide ho; have HXS := hide hxs; have HB1 := hide hb; have hs1 := hb.size; have HC1 := hide (H2.out.below hb); clear ho hxs hb
    go_wp2_with fail
    refine (c_v8At _ c2 0 4 _ HC1.out (by omega) (by omega) (by omega)).mono ?_; rintro e w2 ⟨m, rfl, hm, hd⟩
    have HB2 := hide (Dr.below HB1.out hd); have HA2 := hide (OwI.drc HA1.out hd); have HC2 := hide (H2.out.below HB2.out); have hs2 := HB2.out.size; clear hd
    go_wp2_with fail
    refine (c_v8At _ c2 1 31 _ HC2.out (by omega) (by omega) (by omega)).mono ?_; rintro e w3 ⟨k, rfl, hk, hd⟩
    have HB3 := hide (Dr.below HB2.out hd); have HA3 : Sec (OwI 2 w3 w.heap.size va xs) := hide (OwI.drc HA2.out hd); have hs3 := HB3.out.size; clear hd
    have hm3 : m ≤ 3 := by omega
    have hk30 : k ≤ 30 := by omega
    have hsg : sigB xs = true := sigB_true.2 ⟨by omega, HXS.out⟩
    have hps : ∀ x ∈ predictF m xs, Smp x := smp_predictF m xs HXS.out
    have hpg : sigB (predictF m xs) = true := sigB_true.2 ⟨by rw [length_predictF]; omega, hps⟩
    have hpl := length_predictF m xs
    have hen := length_encL (k := k) HXS.out
    have hbd := lenF_bd (k := k) HXS.out hk30
    have hor := ordR_bd HXS.out
    have hos : ∀ x ∈ predictF (ordR xs).1 xs, Smp x := smp_predictF _ xs HXS.out
    have hog : sigB (predictF (ordR xs).1 xs) = true := sigB_true.2 ⟨by rw [length_predictF]; omega, hos⟩
    have hbr := bestR_bd HXS.out
    have hble := bestR_le xs hk30
    have hole := ordR_le xs hm3 hk30
    have HRS := hide (restF_predictF m xs HXS.out)
    have HDR := hide (ricP_enc (k := k) HXS.out (by omega) hk30)
    have HENC := hide (show encRF xs (k : Int) = (mkS (encL xs k), 0) by unfold encRF; rw [if_pos hsg, if_pos (inB_true.2 (by omega))]; rfl)
    have HPR := hide (show predSigF xs (m : Int) = (predictF m xs, 0) by unfold predSigF; rw [if_pos hsg, if_pos (inB_true.2 (by omega))]; rfl)
    have HPO := hide (show predSigF xs (((ordR xs).1 : Nat) : Int) = (predictF (ordR xs).1 xs, 0) by unfold predSigF; rw [if_pos hsg, if_pos (inB_true.2 (by omega))]; rfl)
    have HBO := hide (show bestOrdF xs = ((((ordR xs).1 : Nat) : Int), (((ordR xs).2 : Nat) : Int), 0) by unfold bestOrdF; rw [if_pos hsg])
    have hcat : (mkS (encL xs k) ++ ⟨#[49]⟩ : ByteArray) = mkS (encL xs k ++ [49]) := mkS_append (encL xs k) [49]
    have hbs : (mkS (encL xs k)).size = (encL xs k).length := size_mkS _
    have hbs2 : (mkS (encL xs k ++ [49])).size = (encL xs k).length + 1 := by rw [size_mkS, List.length_append]; rfl
    have KP : Sec (∀ w, RdI w va xs → Calls Tryd.prog 14 #[va, .int .i64 (m : Int)] w fun e w' => ∃ v', e = .returned (.tuple #[v', .int .i64 0]) ∧ OwI 2 w' w.heap.size v' (predictF m xs) ∧ Below w.heap.size w w') := hide (fun w hr => by have := c_iPredictSignal va xs (m : Int) w hr (by omega); rw [HPR.out] at this; exact this)
    have KE : Sec (∀ w, RdI w va xs → Calls Tryd.prog 16 #[va, .int .i64 (k : Int)] w fun e w' => e = .returned (.tuple #[.string (mkS (encL xs k)), .int .i64 0]) ∧ Below w.heap.size w w') := hide (fun w hr => by have := c_iEncodeRice va xs (k : Int) w hr (by omega); unfold EncR at this; rw [HENC.out] at this; exact this)
    have KD : Sec (∀ w, Calls Tryd.prog 18 #[.string (mkS (encL xs k ++ [49])), .int .i64 (xs.length : Int), .int .i64 (k : Int)] w fun e w' => ∃ v, e = .returned (.tuple #[v, .int .i64 (lenF xs k), .int .i64 0]) ∧ OwI 2 w' w.heap.size v xs ∧ Below w.heap.size w w') := hide (fun w => ci_DR _ _ _ (xs, lenF xs k, 0) w (by omega) (by omega) (by omega) HDR.out)
    have KB : Sec (∀ w, RdI w va xs → Calls Tryd.prog 21 #[va] w fun e w' => e = .returned (.tuple #[.int .i64 (((ordR xs).1 : Nat) : Int), .int .i64 (((ordR xs).2 : Nat) : Int), .int .i64 0]) ∧ Below w.heap.size w w') := hide (fun w hr => by have := c_iBestOrder va xs w hr (by omega); rw [HBO.out] at this; exact this)
    have KQ : Sec (∀ w, RdI w va xs → Calls Tryd.prog 22 #[va, .int .i64 (((ordR xs).1 : Nat) : Int)] w fun e w' => ∃ v', e = .returned (.tuple #[v', .int .i64 0]) ∧ OwI 2 w' w.heap.size v' (predictF (ordR xs).1 xs) ∧ Below w.heap.size w w') := hide (fun w hr => by have := c_sPredictSignal va xs (((ordR xs).1 : Nat) : Int) w hr (by omega); rw [HPO.out] at this; exact this)
    have KR := hide (fun v w (hr : RdI w v (predictF m xs)) => c_iRestoreOk v (predictF m xs) m w hr hpg hm3)
    rw [HRS.out] at KR
    have KN := hide (fun w (hr : RdI w va xs) => c_iRiceLen va xs k w hr hsg hk30)
    have KS := hide (fun w (hr : RdI w va xs) => c_iBestRice va xs w hr hsg)
    have KU := hide (fun v w (hr : RdI w v (predictF (ordR xs).1 xs)) => c_sRiceLen v (predictF (ordR xs).1 xs) (ordR xs).2 w hr hog hor.2)
    have KV := hide (fun v w (hr : RdI w v (predictF m xs)) => c_sRiceLen v (predictF m xs) k w hr hpg hk30)
    have hsn : ((mkS (encL xs k)).size : Int) = lenF xs k := by rw [hbs]; exact hen
    have hnlt : ¬ lenF xs k < (bestR xs).2 := by omega
    have hb30 : (((bestR xs).1 : Nat) : Int) ≤ 30 := by omega
    have ho3 : (((ordR xs).1 : Nat) : Int) ≤ 3 := by omega
    clear hen hbs hpl hbr hor hps hpg hos hog hsg hble
    generalize mkS (encL xs k ++ [49]) = sF at *
    generalize mkS (encL xs k) = sE at *
    generalize bestR xs = B at *
    generalize (predictF (ordR xs).1 xs) = dO at *
    generalize ordR xs = O at *
    generalize predictF m xs = dm at *
    generalize lenF xs k = nb at *
    have HFU := hide (fun x (hx : Smp x) => unfF_foldF hx)
    clear HDR HENC HPR HPO HBO HRS
    go_wp2_with fail
    refine (KP.out _ (OwI.rd HA3.out)).mono ?_; rintro e w4 ⟨vd, rfl, ho, hb⟩
    have HB4 := hide (bthen HB3.out hs3 hb); have HA4 := hide (own_all HA3.out hb); have HD4 := hide ho; clear ho hb
    have hs4 := HB4.out.size
    go_wp2_with fail
    refine (KR.out _ _ (OwI.rd HD4.out)).mono ?_; rintro e w5 ⟨vk, rfl, ho, hb⟩
    have HB5 := hide (bthen HB4.out hs4 hb); have HA5 := hide (own_all HA4.out hb); have HD5 := hide (own_all HD4.out hb); have HK5 := hide ho; clear ho hb
    have hs5 := HB5.out.size
    go_wp2_with fail
    refine (KE.out _ (OwI.rd HA5.out)).mono ?_; rintro e w6 ⟨rfl, hb⟩
    have HB6 := hide (bthen HB5.out hs5 hb); have HA6 := hide (own_all HA5.out hb); have HD6 := hide (own_all HD5.out hb); have HK6 := hide (own_all HK5.out hb); clear hb
    have hs6 := HB6.out.size
    go_wp2_with fail
    refine (KN.out _ (OwI.rd HA6.out)).mono ?_; rintro e w7 ⟨rfl, hb⟩
    have HB7 := hide (bthen HB6.out hs6 hb); have HA7 : Sec (OwI 2 w7 w.heap.size va xs) := hide (own_all HA6.out hb); have HD7 := hide (own_all HD6.out hb); have HK7 := hide (own_all HK6.out hb); clear hb
    have hs7 := HB7.out.size
    obtain ⟨Aa, capa, rfl, hla, hca, _⟩ := (OwI.rd HA7.out).open_
    go_wp2_with fail
    refine (KD.out _).mono ?_; rintro e w8 ⟨vl, rfl, ho, hb⟩
    have HB8 := hide (bthen HB7.out hs7 hb); have HA8 : Sec (OwI 2 w8 w.heap.size (.slice Aa xs.length capa) xs) := hide (own_all HA7.out hb); have HD8 : Sec (OwI 2 w8 w3.heap.size vd dm) := hide (own_all HD7.out hb); have HK8 : Sec (OwI 2 w8 w4.heap.size vk xs) := hide (own_all HK7.out hb); have HL8 := hide ho; clear ho hb
    have hs8 := HB8.out.size
    have hcs1 := fun w' (h : Dr w8 w') => c_v8Same vk (.slice Aa xs.length capa) xs xs w' (OwI.rd (OwI.drc HK8.out h)) (OwI.rd (OwI.drc HA8.out h))
    have hcs2 := fun w' (h : Dr w8 w') => c_v8Same vl (.slice Aa xs.length capa) xs xs w' (OwI.rd (OwI.drc HL8.out h)) (OwI.rd (OwI.drc HA8.out h))
    rw [decide_eq_true (rfl : xs = xs)] at hcs1 hcs2
    have HC1 := hide hcs1; have HC2 := hide hcs2; clear hcs1 hcs2
    go_wp2_with (first | (go_at_call_of 19 vk; refine (HC1.out _ (Dr.refl _)).mono ?_; rintro e w9 ⟨rfl, hd9⟩) | (go_at_call_of 19 vl; refine (HC2.out _ hd9).mono ?_; rintro e w10 ⟨rfl, hd10⟩))
    have hdd := hd9.trans hd10
    have HB10 := hide (Dr.below HB8.out hdd); have HA10 := hide (OwI.drc HA8.out hdd); have HD10 := hide (OwI.drc HD8.out hdd); clear hd9 hd10 hdd HC1 HC2
    have hs10 := HB10.out.size
    refine (KS.out _ (OwI.rd HA10.out)).mono ?_; rintro e _ ⟨rfl, rfl⟩
    go_wp2_with fail
    refine (KB.out _ (OwI.rd HA10.out)).mono ?_; rintro e w11 ⟨rfl, hb⟩
    have HB11 := hide (bthen HB10.out hs10 hb); have HA11 := hide (own_all HA10.out hb); have HD11 := hide (own_all HD10.out hb); clear hb
    have hs11 := HB11.out.size
    go_wp2_with fail
    refine (KQ.out _ (OwI.rd HA11.out)).mono ?_; rintro e w12 ⟨vo, rfl, ho, hb⟩
    have HB12 := hide (bthen HB11.out hs11 hb); have HA12 : Sec (OwI 2 w12 w.heap.size (.slice Aa xs.length capa) xs) := hide (own_all HA11.out hb); have HD12 : Sec (OwI 2 w12 w3.heap.size vd dm) := hide (own_all HD11.out hb); have HO12 := hide ho; clear ho hb
    go_wp2_with fail
    refine (KU.out _ _ (OwI.rd HO12.out)).mono ?_; rintro e _ ⟨rfl, rfl⟩
    go_wp2_with fail
    refine (KV.out _ _ (OwI.rd HD12.out)).mono ?_; rintro e _ ⟨rfl, rfl⟩
    have hxo := (OwI.rd HA12.out).open_
    obtain ⟨A2, cap2, hv2, _, _, hx2⟩ := hxo
    injection hv2 with hv3 _ hv4
    subst hv3 hv4
    have HX2 := hide hx2; clear hx2
    generalize lenF dO O.2 = lu at *
    go_wp2
    go_loopw [26] (fun iv wr => ∃ i : Nat, i ≤ xs.length ∧ iv = .int .i64 (i : Int) ∧ Dr w12 wr) (fun iv _ => xs.length - (intOf iv).toNat)
    case atStart => exact ⟨0, Nat.zero_le _, rfl, Dr.refl _⟩
    case round =>
      obtain ⟨i, hi, rfl, nr, rfl⟩ := hrel
      by_cases hlt : i < xs.length
      · have hi3 : (i : Int) < (xs.length : Int) := by omega
        obtain ⟨y, hy⟩ : ∃ y, xs[i]? = some y := ⟨_, List.getElem?_eq_getElem hlt⟩
        obtain ⟨bb, off, rfl, hbb, hce⟩ := HX2.out i y hy
        have hsm := HXS.out y (List.mem_of_getElem? hy)
        have hfb := foldF_bd hsm
        have huf := HFU.out y hsm
        obtain ⟨z, hz⟩ : ∃ z : Nat, foldF y = (z : Int) := ⟨(foldF y).toNat, by omega⟩
        rw [hz] at hfb huf
        rw [Int.toNat_natCast] at huf
        have HSM := hide hsm; have HZ := hide hz; have HUF := hide huf; clear hsm hz huf hy
        go_wp2_with (first | (go_at_call 24; refine (c_FoldSample y _ HSM.out).mono ?_; rw [HZ.out]; rintro e _ ⟨rfl, rfl⟩) | (go_at_call 25; refine (c_UnfoldSample z _ (by omega)).mono ?_; rw [HUF.out]; rintro e _ ⟨rfl, rfl⟩))
        go_roundw
        case rel => exact ⟨i + 1, by omega, by go_num, (by repeat (first | exact Dr.refl _ | exact ⟨_, rfl⟩ | refine Dr.drewN ?_ _ | refine Dr.drew ?_))⟩
        case measure => simp [intOf]; omega
      · have hi3 : ¬ (i : Int) < (xs.length : Int) := by omega
        go_wp2
        go_ret
        exact ⟨by first | rfl | (simp; omega), below_drewN HB12.out _⟩
  · have HL := hide hlong; clear hlong
    go_enter Tryd.func5, Tryd.ntmps5
    go_wp2_with fail
    refine (c_v8Long _ _ c1 c2 _ H1.out H2.out).mono ?_; rw [HL.out]; rintro e _ ⟨rfl, rfl⟩
    go_wp2
    go_ret
    exact ⟨rfl, Below.refl _ _⟩
end Go.Proofs.YtpmflkoepnanoaaDoor
