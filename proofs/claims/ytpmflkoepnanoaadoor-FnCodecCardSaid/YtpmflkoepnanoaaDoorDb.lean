/- Contracts: Rice codes; EncodeRice of both sides; the law. -/
import Derived.Lib.Repeat
import Derived.Test.YtpmflkoepnanoaaDoorDa
namespace Go.Proofs.YtpmflkoepnanoaaDoor
open Go.RowKit
set_option maxHeartbeats 400000 in
theorem c_isRice (n : Int) (w : World) : Calls Tryd.prog 51 #[.int .i64 n] w fun e w' => e = .returned (.bool (inB n 0 30)) ∧ w = w' := by
  go_enter Tryd.func51, Tryd.ntmps51
  go_wp2_with (go_at_call 66; refine (c_within _ _ _ _).mono ?_; rintro e w' ⟨rfl, rfl⟩)
  go_ret
  exact ⟨rfl, rfl⟩
theorem repeat_one (c : Nat) : Lib.repeatL [49] c = List.replicate c 49 := by
  induction c with
  | zero => rfl
  | succ c ih => rw [Lib.repeatL, ih]; rfl
set_option maxHeartbeats 400000 in
theorem c_timesOne (c : Int) (w : World) (h0 : 0 ≤ c) (hc : c ≤ 1000) : Calls Tryd.prog 92 #[.string ⟨#[49]⟩, .int .i64 c] w fun e w' => e = .returned (.string (mkS (List.replicate c.toNat 49))) ∧ Below w.heap.size w w' := by
  obtain ⟨n, rfl⟩ := Int.eq_ofNat_of_zero_le h0
  have HR := hide (Tryd.strings_Repeat ⟨#[49]⟩ n w (by omega) (by show 1 * n ≤ _; omega))
  have HE := hide (show Lib.repeatL (⟨#[49]⟩ : ByteArray).data.toList n = List.replicate n 49 from repeat_one n)
  go_enter Tryd.func92, Tryd.ntmps92
  go_wp2_with fail
  refine HR.out.mono ?_; rw [HE.out]; rintro e w1 ⟨rfl, hb⟩
  have HB := hide hb; clear hb
  go_wp2
  go_ret
  exact ⟨rfl, HB.out⟩
/-- A builder that holds the bytes l. -/
def Bu (w : World) (B b : Nat) (l : List UInt8) : Prop := Lib.IsBuilderF 104 5 B b (Lib.byteCells l) w
theorem builderAt_below {p : Value} {bs : List Value} {W W' : World} {B b : Nat} (h : Lib.BuilderAtF 104 5 B b p bs W) (hb : Below W.heap.size W W') : Lib.BuilderAtF 104 5 B b p bs W' := by
  obtain ⟨hB, v, hv, hown, hne⟩ := h
  refine ⟨hB, v, (hb.block b (Array.getElem?_eq_some_iff.1 hv).1).trans hv, ⟨hown.1, ?_⟩, hne⟩
  rcases hown.2 with hn | ⟨g, cap, cur, fz, h1, h2, h3, rest⟩
  · exact .inl hn
  · exact .inr ⟨g, cap, cur, fz, h1, h2, (hb.block g (Array.getElem?_eq_some_iff.1 h3).1).trans h3, rest⟩
theorem Bu.below {B b : Nat} {l : List UInt8} {W W' : World} (h : Bu W B b l) (hb : Below W.heap.size W W') : Bu W' B b l := h.elim (fun x => .inl (builderAt_below x hb)) (fun x => .inr (builderAt_below x hb))
theorem Bu.new (w : World) : Bu (w.alloc (.cells #[.pointer none, .slice none 0 0] 104)) w.heap.size w.heap.size [] :=
  .inl ⟨Nat.le_refl _, .slice none 0 0, heap_alloc_new w _, World.ownsRowF_of (World.ownsRow_nil _ _ _ _), by simp [Value.ownBlock]⟩
theorem bu_write {B b : Nat} {l : List UInt8} {s : ByteArray} {w : World} (h : Bu w B b l) (hlen : l.length + s.size ≤ 140737488355328) (hBw : B ≤ w.heap.size) :
    Calls Tryd.prog 91 #[.pointer (some ⟨b, 0, none⟩), .string s] w fun e w' => e = .returned (.tuple #[.int .i64 s.size, .nilIface]) ∧ Bu w' B b (l ++ s.data.toList) ∧ Below B w w' :=
  (Tryd.Builder_WriteString_k B b _ s w h (by rw [Lib.byteCells_length]; exact hlen) hBw).mono fun e w' ⟨h1, h2, h3, _⟩ => ⟨h1, .inr (by rw [Lib.byteCells_append, ← Lib.strCells_eq]; exact h2), h3⟩
theorem bu_string {B b : Nat} {l : List UInt8} {w : World} (h : Bu w B b l) (hBw : B ≤ w.heap.size) :
    Calls Tryd.prog 94 #[.pointer (some ⟨b, 0, none⟩)] w fun e w' => e = .returned (.string (mkS l)) ∧ Below B w w' :=
  (Tryd.Builder_String_any_k B b l w h hBw).mono fun e w' ⟨h1, _, h3, _⟩ => ⟨h1, h3⟩
theorem cat_code1 (x : Int) (k : Nat) (h : quoF x k < 20) : mkS (List.replicate (quoF x k).toNat 49) ++ ⟨#[48]⟩ ++ mkS (digL (foldF x) k) = mkS (encC x k) := by
  show mkS _ ++ mkS [48] ++ mkS _ = _
  rw [mkS_append, mkS_append]; unfold encC; rw [if_pos h]; simp
theorem cat_code2 (x : Int) (k : Nat) (h : ¬ quoF x k < 20) : mkS (List.replicate 20 49) ++ mkS (digL (foldF x) 32) = mkS (encC x k) := by
  rw [mkS_append]; unfold encC; rw [if_neg h]
set_option maxHeartbeats 1000000 in
set_option maxRecDepth 100000 in
theorem c_encodeRice (v : Value) (xs : List Int) (k : Nat) (w : World) (hr : RdI w v xs) (hs : ∀ x ∈ xs, Smp x) (hn : xs.length ≤ 1048576) (hk : k ≤ 30) : Calls Tryd.prog 52 #[v, .int .i64 (k : Int)] w fun e w' => e = .returned (.string (mkS (encL xs k))) ∧ Below w.heap.size w w' := by
  obtain ⟨A, cap, rfl, hl, hc, hx⟩ := hr.open_
  have HX := hide hx; have HS := hide hs; clear hx hr hs
  go_enter Tryd.func52, Tryd.ntmps52
  go_wp2
  go_loopw [14] (fun i wr => ∃ j : Nat, j ≤ xs.length ∧ i = .int .i64 j ∧ Bu wr w.heap.size w.heap.size (encL (xs.take j) k) ∧ Below w.heap.size w wr) (fun i _ => xs.length - (intOf i).toNat)
  case atStart => exact ⟨0, Nat.zero_le _, rfl, Bu.new w, (Below.refl _ _).alloc (Nat.le_refl _) _⟩
  case round =>
    obtain ⟨j, hj, rfl, ho, hb⟩ := hrel
    have HO := hide ho; have HB := hide hb; have hsz := hb.size; clear ho hb
    by_cases hlt : j < xs.length
    · obtain ⟨b, off, rfl, hbw, hcell⟩ := HX.out j xs[j] (List.getElem?_eq_getElem hlt)
      have h1 : wr.cell? ⟨b, off + j, none⟩ = some (.int .i64 xs[j]) := (HB.out.cell hbw).trans hcell
      have hsm := HS.out xs[j] (List.getElem_mem _)
      have hf := foldF_bd hsm
      have hq := quoF_bd k hsm
      have he : foldF xs[j] / 2 ^ k = quoF xs[j] k := rfl
      have HE := hide (encL_snoc k (List.getElem?_eq_getElem hlt))
      have hle := length_encTo HS.out hk j
      have hlc := length_encC (k := k) hsm
      have hbd := bitsF_bd hsm hk
      by_cases h20 : quoF xs[j] k < 20
      · have HC := hide (cat_code1 xs[j] k h20)
        go_wp2_with (go_at_call 65; refine (c_fold _ _ hsm).mono ?_; rintro e w' ⟨rfl, rfl⟩)
        refine (c_timesOne _ _ hq.1 (by omega)).mono ?_; rintro e w1 ⟨rfl, hb1⟩
        have HB1 := hide hb1; clear hb1
        have hz1 : (mkS (List.replicate (quoF xs[j] k).toNat 49)).size + (⟨#[48]⟩ : ByteArray).size ≤ 9223372036854775807 := by rw [size_mkS, List.length_replicate]; show _ + 1 ≤ _; omega
        go_wp2_with fail
        refine (c_digits _ k _ (by omega) (by omega)).mono ?_; rintro e w2 ⟨rfl, hb2⟩
        have HB2 := hide hb2; clear hb2
        have hz2 : (mkS (List.replicate (quoF xs[j] k).toNat 49) ++ (⟨#[48]⟩ : ByteArray)).size + (mkS (digL (foldF xs[j]) k)).size ≤ 9223372036854775807 := by
          rw [ByteArray.size_append, size_mkS, size_mkS, List.length_replicate, length_digL]; show _ + 1 + _ ≤ _; omega
        go_wp2_with fail
        rw [HC.out]
        refine (bu_write ((HO.out.below HB1.out).below HB2.out) (by rw [size_mkS]; omega) (by have := HB1.out.size; have := HB2.out.size; omega)).mono ?_; rintro e w3 ⟨rfl, hu, hb3⟩
        have HU := hide hu; have HB3 := hide (((HB.out.trans (HB1.out.mono hsz)).trans (HB2.out.mono (by have := HB1.out.size; omega))).trans hb3); clear hu hb3
        go_wp2
        go_roundw
        case rel => exact ⟨j + 1, by omega, by go_num, by rw [HE.out]; exact HU.out, HB3.out⟩
        case measure => first | (simp [intOf]; done) | (simp [intOf]; omega)
      · have HC := hide (cat_code2 xs[j] k h20)
        obtain ⟨t, ht⟩ : ∃ t, mkS (List.replicate (20 : Int).toNat 49) = t := ⟨_, rfl⟩
        have hz2 : t.size + (mkS (digL (foldF xs[j]) 32)).size ≤ 9223372036854775807 := by
          rw [← ht, size_mkS, size_mkS, List.length_replicate, length_digL]; omega
        have HT := hide ht
        have HC2 := hide (show t ++ mkS (digL (foldF xs[j]) 32) = mkS (encC xs[j] k) by rw [← HC.out, ← ht]; rfl)
        clear ht
        go_wp2_with (go_at_call 65; refine (c_fold _ _ hsm).mono ?_; rintro e w' ⟨rfl, rfl⟩)
        refine (c_timesOne 20 _ (by omega) (by omega)).mono ?_; rw [HT.out]; rintro e w1 ⟨rfl, hb1⟩
        have HB1 := hide hb1; clear hb1
        go_wp2_with fail
        refine (c_digits _ 32 _ (by omega) (by omega)).mono ?_; rintro e w2 ⟨rfl, hb2⟩
        have HB2 := hide hb2; clear hb2
        go_wp2_with fail
        rw [HC2.out]
        refine (bu_write ((HO.out.below HB1.out).below HB2.out) (by rw [size_mkS]; omega) (by have := HB1.out.size; have := HB2.out.size; omega)).mono ?_; rintro e w3 ⟨rfl, hu, hb3⟩
        have HU := hide hu; have HB3 := hide (((HB.out.trans (HB1.out.mono hsz)).trans (HB2.out.mono (by have := HB1.out.size; omega))).trans hb3); clear hu hb3
        go_wp2
        go_roundw
        case rel => exact ⟨j + 1, by omega, by go_num, by rw [HE.out]; exact HU.out, HB3.out⟩
        case measure => first | (simp [intOf]; done) | (simp [intOf]; omega)
    · have hje : xs.take j = xs := List.take_of_length_le (by omega)
      have HJ := hide hje; clear hje
      go_wp2_with fail
      refine (bu_string HO.out hsz).mono ?_; rw [HJ.out]; rintro e w3 ⟨rfl, hb3⟩
      have HB3 := hide (HB.out.trans hb3); clear hb3
      go_wp2
      go_ret
      exact ⟨rfl, HB3.out⟩
/-- EncodeRice: the bits and the code. -/
def encRF (xs : List Int) (k : Int) : ByteArray × Int := if sigB xs then (if inB k 0 30 then (mkS (encL xs k.toNat), 0) else (⟨#[]⟩, 2)) else (⟨#[]⟩, 1)
def EncR (xs : List Int) (k : Int) (w : World) (e : Ending) (w' : World) : Prop := e = .returned (.tuple #[.string (encRF xs k).1, .int .i64 (encRF xs k).2]) ∧ Below w.heap.size w w'
theorem EncR.mk {xs : List Int} {k : Int} {w w' : World} {a : ByteArray} {c : Int} (h : encRF xs k = (a, c)) (hb : Below w.heap.size w w') : EncR xs k w (.returned (.tuple #[.string a, .int .i64 c])) w' := ⟨by rw [h], hb⟩
set_option maxHeartbeats 800000 in
theorem c_iEncodeRice (v : Value) (xs : List Int) (m : Int) (w : World) (hr : RdI w v xs) (hn : xs.length ≤ 1048576) : Calls Tryd.prog 16 #[v, .int .i64 m] w (EncR xs m w) := by
  have HR := hide hr; clear hr
  cases hs : sigB xs
  · have hc : ∀ b, rateF xs b = 1 := fun b => by simp [rateF, hs]
    have HE := hide (show encRF xs m = (⟨#[]⟩, 1) by unfold encRF; rw [hs]; rfl)
    go_enter Tryd.func16, Tryd.ntmps16
    go_wp2_with (first | (go_at_call 51; refine (c_isRice _ _).mono ?_; rintro e w' ⟨rfl, rfl⟩) | (go_at_call 47; refine (c_rateCode _ xs _ _ HR.out).mono ?_; rintro e w' ⟨rfl, rfl⟩))
    go_ret2
    exact EncR.mk HE.out (Below.refl _ _)
  · cases hi : inB m 0 30
    · have hc : rateF xs false = 2 := by simp [rateF, hs]
      have HE := hide (show encRF xs m = (⟨#[]⟩, 2) by unfold encRF; rw [hs, hi]; rfl)
      go_enter Tryd.func16, Tryd.ntmps16
      go_wp2_with (first | (go_at_call 51; refine (c_isRice _ _).mono ?_; rintro e w' ⟨rfl, rfl⟩) | (go_at_call 47; refine (c_rateCode _ xs _ _ HR.out).mono ?_; rintro e w' ⟨rfl, rfl⟩))
      go_ret2
      exact EncR.mk HE.out (Below.refl _ _)
    · obtain ⟨h0, h3⟩ := inB_true.1 hi
      obtain ⟨n, rfl⟩ := Int.eq_ofNat_of_zero_le h0
      have hc : rateF xs true = 0 := by simp [rateF, hs]
      have HE := hide (show encRF xs n = (mkS (encL xs n), 0) by unfold encRF; rw [hs, hi]; rfl)
      have HSS := hide (sigB_true.1 hs).2
      go_enter Tryd.func16, Tryd.ntmps16
      go_wp2_with (first | (go_at_call 51; refine (c_isRice _ _).mono ?_; rintro e w' ⟨rfl, rfl⟩) | (go_at_call 47; refine (c_rateCode _ xs _ _ HR.out).mono ?_; rintro e w' ⟨rfl, rfl⟩) | (go_at_call 52; refine (c_encodeRice _ xs n _ HR.out HSS.out hn (by omega)).mono ?_; rintro e w2 ⟨rfl, hb2⟩; have HB2 := hide hb2; clear hb2))
      go_ret2
      exact EncR.mk HE.out HB2.out
end Go.Proofs.YtpmflkoepnanoaaDoor
