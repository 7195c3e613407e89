/- Contracts: packed bits of the reference; frames of both sides; the law of EncodeFrame. -/
import Derived.Test.YtpmflkoepnanoaaGreatEa
import Derived.Test.YtpmflkoepnanoaaGreatCb
namespace Go.Proofs.YtpmflkoepnanoaaGreat
open Go.RowKit
theorem calls_gen {P : Program} {f : FuncId} {args : Array Value} {w W : World} {R : Ending → World → Prop} (h : Below w.heap.size w W) (k : ∀ W', Below w.heap.size w W' → Calls P f args W' R) : Calls P f args W R := k W h
/-- The length of a slice value. -/
def lenOf : Value → Nat | .slice _ n _ => n | _ => 0
theorem RdY.below {w w' : World} {v : Value} {bs : List UInt8} (h : RdY w v bs) (hb : Below w.heap.size w w') : RdY w' v bs := Rd.below h hb
theorem RdY.drew {w : World} {v : Value} {bs : List UInt8} (h : RdY w v bs) : RdY w.drew v bs := h
theorem RdY.open_ {w : World} {v : Value} {bs : List UInt8} (h : RdY w v bs) : ∃ A cap, v = .slice A bs.length cap ∧ bs.length ≤ cap ∧ cap ≤ 9223372036854775807 ∧
    (∀ k x, bs[k]? = some x → ∃ b off, A = some ⟨b, off, none⟩ ∧ b < w.heap.size ∧ w.cell? ⟨b, off + k, none⟩ = some (.int .u8 (x.toNat : Int))) := by
  obtain ⟨_, A, cap, rfl, h3, h4, h5⟩ := h
  refine ⟨A, cap, rfl, h3, h4, fun k x hk => ?_⟩
  obtain ⟨b, off, rfl, hb, hc⟩ := h5 (by have := (List.getElem?_eq_some_iff.1 hk).1; omega)
  exact ⟨b, off, rfl, hb, hc k _ (by rw [List.getElem?_map, hk]; rfl)⟩
set_option maxHeartbeats 1000000 in
set_option maxRecDepth 100000 in
theorem c_l29Pack (B : Nat) (v : Value) (l : List UInt8) (w : World) (ho : OwY 5 w B v l) (hB : B ≤ w.heap.size) (hl : l.length ≤ 1073741824) (hbits : Bits l) : Calls Tryz.prog 96 #[v] w fun e w' => e = .returned (.string (mkS (packL l))) ∧ Below B w w' := by
  have HBI := hide hbits; clear hbits
  have HO := hide ho; clear ho
  obtain ⟨A, cap, rfl, hcap, hcm⟩ : ∃ A cap, v = .slice A l.length cap ∧ l.length ≤ cap ∧ cap ≤ 9223372036854775807 := by
    obtain ⟨_, A, cap, rfl, h3, h4, _⟩ := HO.out.rd
    exact ⟨A, cap, rfl, h3, h4⟩
  go_enter Tryz.func96, Tryz.ntmps96
  go_wp2
  go_loopw [0] (fun t wr => ∃ (j : Nat) (A2 : Option Addr) (cap2 : Nat), j ≤ (8 - l.length % 8) % 8 ∧ t = .slice A2 (l.length + j) cap2 ∧ OwY 5 wr B (.slice A2 (l.length + j) cap2) (l ++ List.replicate j 48) ∧ Below B w wr) (fun t _ => 8 - (lenOf t - l.length))
  case atStart => exact ⟨0, A, cap, by omega, rfl, by simpa using HO.out, Below.refl _ _⟩
  case round =>
    obtain ⟨j, A2, cap2, hj, rfl, ho, hb⟩ := hrel
    have HO2 := hide ho; have HB := hide hb; have hsz := hb.size; clear ho hb
    by_cases hm : (l.length + j) % 8 = 0
    · have HP := hide (packL_pad l j hm (by omega))
      have HBP := hide (bits_pad HBI.out j)
      have hln : (l ++ List.replicate j 48).length = l.length + j := by simp
      generalize hbs : l ++ List.replicate j 48 = bs at *
      generalize hnn : l.length + j = n at *
      have ht : ((n : Int) % 8 != 0) = false := by rw [bne_eq_false_iff_eq]; omega
      have HBS := hide hbs; have HNN := hide hnn; have HLN := hide hln; clear hbs hnn hln
      have h8 : n = 8 * (n / 8) := by omega
      have hnsz : n ≤ 1073741831 := by have := HNN.out; omega
      obtain ⟨q, hq⟩ : ∃ q, n / 8 = q := ⟨_, rfl⟩
      rw [hq] at h8 HP
      subst h8
      clear hq hm
      obtain ⟨w2, rfl⟩ : ∃ w2 : World, w2 = wr := ⟨_, rfl⟩
      go_wp2
      go_loopw [3, 4, 5, 6] (fun t i x y w3 => ∃ m : Nat, m ≤ q ∧ i = .int .i64 ((8 * m : Nat) : Int) ∧ OwY 5 w3 w2.heap.size t ((List.range m).map fun m => UInt8.ofNat (pkB bs m 8)) ∧ Below w2.heap.size w2 w3) (fun _ i _ _ _ => 8 * q - (intOf i).toNat)
      case atStart => exact ⟨0, Nat.zero_le _, rfl, new_u8 w2, (Below.refl _ _).alloc (Nat.le_refl _) _⟩
      case round =>
        obtain ⟨m, hm, rfl, ho, hb⟩ := hrel
        have HO3 := hide ho; have HB3 := hide hb; have hsz3 := hb.size; clear ho hb
        by_cases hlt : m < q
        · have hrd := (Rd.below HO2.out.rd HB3.out : RdY _ _ _)
          have HRD := hide hrd; clear hrd
          obtain ⟨A5, cap5, hv5, hl5, hc5, hx5⟩ := RdY.open_ HRD.out
          simp only [Value.slice.injEq] at hv5
          obtain ⟨rfl, hv5, rfl⟩ := hv5
          have HX5 := hide hx5; have HV5 := hide hv5; clear hx5 hv5
          obtain ⟨w3, rfl⟩ : ∃ w3 : World, w3 = wr := ⟨_, rfl⟩
          go_wp2
          go_loop [5, 6] (fun x y => ∃ c : Nat, c ≤ 8 ∧ y = .int .i64 (c : Int) ∧ x = .int .i64 ((pkB bs m c : Nat) : Int)) (fun _ y => 8 - (intOf y).toNat)
          case atStart => exact ⟨0, by omega, rfl, rfl⟩
          case round =>
            obtain ⟨c, hc, rfl, rfl⟩ := hrel
            have hpk := pkB_lt bs m c
            have hp2 : 2 ^ c ≤ 2 ^ 8 := Nat.pow_le_pow_right (by omega) hc
            by_cases hc8 : c < 8
            · have hin : 8 * m + c < bs.length := by rw [HV5.out.symm]; omega
              obtain ⟨b, off, rfl, hbw, hcell⟩ := HX5.out (8 * m + c) _ (List.getElem?_eq_getElem hin)
              obtain ⟨hg1, hg2, hg3⟩ := bits_get HBP.out (List.getElem?_eq_getElem hin)
              have hbn := bitN_le bs (8 * m + c)
              generalize bs[8 * m + c] = by_ at *
              generalize hbb : bitN bs (8 * m + c) = bb at *
              have HBB := hide (show pkB bs m (c + 1) = 2 * pkB bs m c + bb by rw [← hbb]; rfl)
              clear hbb
              have e1 : (8 * (m : Int) + (c : Int)).toNat = 8 * m + c := by omega
              have e2 : 8 * (m : Int) + (c : Int) < 8 * (q : Int) := by omega
              have e3 : IntKind.u8.wrap ((by_.toNat : Int) - 48) = (bb : Int) := by rw [hg1]; exact IntWalk.u8_in _ (by omega)
              clear hg1
              go_wp2
              go_round
              case rel => exact ⟨c + 1, by omega, by go_num, by rw [HBB.out]; go_num⟩
              case measure => first | (simp [intOf]; done) | (simp [intOf]; omega)
            · have h8 : c = 8 := by omega
              subst h8
              have HPK := hide (show ((pkB bs m 8 : Nat) : Int) = ((UInt8.ofNat (pkB bs m 8)).toNat : Int) by simp; omega)
              have HRS := hide (range_snoc (fun m => UInt8.ofNat (pkB bs m 8)) m)
              go_wp2_with (at_builtin; refine app1_u8 (n := UInt8.ofNat (pkB bs m 8)) rfl _ _ rfl rfl HO3.out rfl HPK.out (by first | (simp; done) | (simp; omega) | omega) hsz3 ?_; intro v1 w1 ho1 hg1 hv1; have hb1 := below_own HB3.out HO3.out hg1 (Nat.le_refl _) hsz3; have HO1 := hide ho1; have HB1 := hide hb1; clear ho1 hb1 hg1 hv1)
              go_roundw
              case rel => exact ⟨m + 1, by omega, by go_num, by rw [HRS.out]; exact HO1.out, HB1.out⟩
              case measure => first | (simp [intOf]; done) | (simp [intOf]; omega)
        · have hmq : m = q := by omega
          subst hmq
          have hc := str_of (OwY.rd HO3.out)
          have e8 : 8 * m / 8 = m := by omega
          rw [HP.out] at hc
          go_wp2
          go_ret
          exact ⟨rfl, HB.out.trans (HB3.out.mono (by omega))⟩
    · have hj7 : j + 1 ≤ (8 - l.length % 8) % 8 := by omega
      have ht : (((l.length : Int) + (j : Int)) % 8 != 0) = true := by rw [bne_iff_ne]; omega
      have HM := hide hm; clear hm
      have hBr : B ≤ wr.heap.size := by omega
      go_wp2_with (at_builtin; refine app1_u8 (n := 48) rfl _ _ rfl rfl HO2.out rfl rfl (by simp; omega) hBr ?_; intro v1 w1 ho1 hg1 hv1; have hb1 := below_own HB.out HO2.out hg1 (Nat.le_refl _) (by omega); have HO1 := hide ho1; have HB1 := hide hb1; clear ho1 hb1 hg1 hv1)
      obtain ⟨_, A3, cap3, rfl, _, _, _⟩ := HO1.out.rd
      go_roundw
      case rel => exact ⟨j + 1, A3, cap3, hj7, (by first | (simp; done) | (simp; omega) | omega), by have := HO1.out; rw [List.append_assoc, ← List.replicate_succ'] at this; simpa [Nat.add_assoc] using this, HB1.out⟩
      case measure => simp [lenOf]; omega
/-- The bytes of a frame ahead of its check value. -/
def frameL (xs : List Int) (o k : Nat) : List UInt8 := wordL xs.length ++ [UInt8.ofNat o, UInt8.ofNat k] ++ packL (encL (predictF o xs) k)
def frameS (xs : List Int) (o k : Nat) : ByteArray := sealS (mkS (frameL xs o k))
theorem pair_cells (o k : Nat) (ho : o < 256) (hk : k < 256) (w : World) : OwY 5 (w.alloc (.cells #[.int .u8 (o : Int), .int .u8 (k : Int)] 5)) w.heap.size (.slice (some ⟨w.heap.size, 0, none⟩) 2 2) [UInt8.ofNat o, UInt8.ofNat k] := by
  have e1 : ((UInt8.ofNat o).toNat : Int) = (o : Int) := by simp; omega
  have e2 : ((UInt8.ofNat k).toNat : Int) = (k : Int) := by simp; omega
  have := World.ownsRow_lit (base := w.heap.size) (e := 5) (size := 1) w #[.int .u8 (o : Int), .int .u8 (k : Int)] 2 (Nat.le_refl _) (by decide) rfl
  unfold OwY
  simp only [List.length_cons, List.length_nil, List.map_cons, List.map_nil, e1, e2]
  exact this
theorem pair_after {o k : Nat} (ho : o < 256) (hk : k < 256) {w w1 : World} (hb : Below (w.alloc (.cells #[.int .u8 (o : Int), .int .u8 (k : Int)] 5)).heap.size (w.alloc (.cells #[.int .u8 (o : Int), .int .u8 (k : Int)] 5)) w1) :
    (convert 22 9 (.slice (some ⟨w.heap.size, 0, none⟩) 2 2)).run Tryz.prog w1 = .ok (.string (mkS [UInt8.ofNat o, UInt8.ofNat k])) w1 := str_of (RdY.below (pair_cells o k ho hk w).rd hb)
theorem length_packL (bits : List UInt8) : (packL bits).length = (bits.length + 7) / 8 := by simp [packL]
theorem length_encP {xs : List Int} (o k : Nat) (h : ∀ x ∈ xs, Smp x) (hk : k ≤ 30) : (encL (predictF o xs) k).length ≤ 52 * xs.length := by
  have h1 := smp_predictF o xs h
  have h2 := length_encL (k := k) h1
  have h3 := lenF_bd h1 hk
  rw [length_predictF] at h3
  omega
set_option maxHeartbeats 1000000 in
set_option maxRecDepth 100000 in
theorem c_l29Frame (v : Value) (xs : List Int) (o k : Nat) (w : World) (hr : RdI w v xs) (hs : ∀ x ∈ xs, Smp x) (hn : xs.length ≤ 4000) (ho : o ≤ 3) (hk : k ≤ 30) : Calls Tryz.prog 79 #[v, .int .i64 (o : Int), .int .i64 (k : Int)] w fun e w' => e = .returned (.string (frameS xs o k)) ∧ Below w.heap.size w w' := by
  have HR := hide hr; have HS := hide hs
  obtain ⟨A, cap, rfl, hl, hc, hx⟩ := hr.open_
  clear hr hs hx
  have ho' : o < 256 := by omega
  have hk' : k < 256 := by omega
  have hwo : IntKind.u8.wrap (o : Int) = (o : Int) := IntWalk.u8_in _ (by omega)
  have hwk : IntKind.u8.wrap (k : Int) = (k : Int) := IntWalk.u8_in _ (by omega)
  have hcv := fun W => str_of (pair_cells o k (by omega) (by omega) W).rd
  have hcvd := fun W => str_of (w := (World.drew (W.alloc (.cells #[.int .u8 (o : Int), .int .u8 (k : Int)] 5)))) (RdY.drew (pair_cells o k ho' hk' W).rd)
  have hle := length_encP o k HS.out hk
  have HCAT := hide (show mkS (wordL xs.length) ++ mkS [UInt8.ofNat o, UInt8.ofNat k] ++ mkS (packL (encL (predictF o xs) k)) = mkS (frameL xs o k) by rw [mkS_append, mkS_append]; rfl)
  have hz1 : (mkS (wordL xs.length)).size + (mkS [UInt8.ofNat o, UInt8.ofNat k]).size ≤ 9223372036854775807 := by rw [size_mkS, size_mkS]; simp [wordL]
  have hz2 : (mkS (wordL xs.length) ++ mkS [UInt8.ofNat o, UInt8.ofNat k]).size + (mkS (packL (encL (predictF o xs) k))).size ≤ 9223372036854775807 := by rw [ByteArray.size_append, size_mkS, size_mkS, size_mkS, length_packL]; simp [wordL]; omega
  have hz3 : (mkS (frameL xs o k)).size ≤ 1073741824 := by rw [size_mkS]; unfold frameL; simp [wordL, length_packL]; omega
  have HPS := hide (smp_predictF o xs HS.out)
  have HBE := hide (bits_encL (predictF o xs) k)
  have hpl := length_predictF o xs
  have HPL := hide hpl; clear hpl
  generalize hpk : packL (encL (predictF o xs) k) = pk at *
  generalize hen : encL (predictF o xs) k = en at *
  generalize hpr : predictF o xs = pr at *
  generalize hwl : wordL xs.length = wl at *
  generalize hpp : [UInt8.ofNat o, UInt8.ofNat k] = pp at *
  have HPK := hide hpk; have HEN := hide hen; have HPR := hide hpr; have HWL := hide hwl; have HPP := hide hpp; clear hpk hen hpr hwl hpp
  go_enter Tryz.func79, Tryz.ntmps79
  go_wp2_with fail
  go_region_with (go_at_call 77; refine (c_l29Word xs.length _ (by omega)).mono ?_; rw [HWL.out]; rintro e w1 ⟨rfl, hb⟩; (first | (have hst := pair_after (o := o) (k := k) ho' hk' hb; rw [HPP.out] at hst) | (have hst := pair_after (o := o) (k := k) ho' hk' (undrew hb); rw [HPP.out] at hst) | skip); have HB := hide hb; clear hb)
  all_goals go_wp2_with fail
  all_goals (refine calls_gen (w := w) (by first | exact ((undrew HB.out).alloc (undrew HB.out).size _) | exact ((Below.refl _ w).alloc (Nat.le_refl _) _).trans ((undrew HB.out).mono (by simp)) | exact ((Below.refl _ w).alloc (Nat.le_refl _) _).trans (HB.out.mono (by simp)) | exact HB.out.alloc HB.out.size _) (fun W hbw => ?_))
  all_goals have HBW := hide hbw
  all_goals have hsW := hbw.size
  all_goals clear hbw
  all_goals (refine (c_l29Predict _ xs o _ (HR.out.below HBW.out) (by omega) ho).mono ?_; rw [HPR.out]; rintro e w2 ⟨v2, rfl, ho2, hb2⟩)
  all_goals have HO2 := hide ho2
  all_goals have HB2 := hide (bthen HBW.out hsW hb2)
  all_goals have hs2 := HB2.out.size
  all_goals clear ho2 hb2
  all_goals go_wp2_with fail
  all_goals (refine (c_l29Encode _ pr k _ HO2.out.rd HPS.out (by rw [HPL.out]; omega) hk).mono ?_; rw [HEN.out]; rintro e w3 ⟨v3, rfl, ho3, hb3⟩)
  all_goals have HO3 := hide ho3
  all_goals have HB3 := hide (bthen HB2.out hs2 hb3)
  all_goals have hs3 := hb3.size
  all_goals clear ho3 hb3
  all_goals go_wp2_with fail
  all_goals (refine (c_l29Pack _ _ en _ HO3.out hs3 (by omega) HBE.out).mono ?_; rw [HPK.out]; rintro e w4 ⟨rfl, hb4⟩)
  all_goals have HB4 := hide (HB3.out.trans (hb4.mono hs2))
  all_goals have hs4 := HB4.out.size
  all_goals clear hb4
  all_goals go_wp2_with fail
  all_goals (rw [HCAT.out]; refine (c_l29Seal _ _ hz3).mono ?_; rintro e w5 ⟨rfl, hb5⟩)
  all_goals have HB5 := hide (bthen HB4.out hs4 hb5)
  all_goals clear hb5
  all_goals go_wp2
  all_goals go_ret
  all_goals exact ⟨rfl, HB5.out⟩
end Go.Proofs.YtpmflkoepnanoaaGreat
