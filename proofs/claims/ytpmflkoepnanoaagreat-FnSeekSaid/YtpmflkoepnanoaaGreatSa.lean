/- Plain: a store that is made of any frames. Plain: stores of which a frame has turned, a frame was replaced, samples were appended. Contract: two signals joined, by the reference; a part of a slice. -/
import Derived.Test.YtpmflkoepnanoaaGreatKa
import Derived.Test.YtpmflkoepnanoaaGreatQa
import Derived.Test.YtpmflkoepnanoaaGreatJe
import Derived.Test.YtpmflkoepnanoaaGreatJk
import Derived.Test.YtpmflkoepnanoaaGreatKc
namespace Go.Proofs.YtpmflkoepnanoaaGreat
section
open Go.RowKit
/-- The bytes of frames, each behind its length. -/
def catL (L : List (List UInt8)) : List UInt8 := L.flatMap fun F => wordL F.length ++ F
def tagL (f n : Nat) : List UInt8 := [83, 84, 69, 77] ++ wordL f ++ wordL n
def headL (f n : Nat) : List UInt8 := tagL f n ++ wordL (crcF (tagL f n) 65535)
def gS (f n : Nat) (L : List (List UInt8)) : ByteArray := mkS (headL f n ++ catL L)
theorem length_wordL (n : Nat) : (wordL n).length = 2 := rfl
theorem length_tagL (f n : Nat) : (tagL f n).length = 8 := rfl
theorem length_headL (f n : Nat) : (headL f n).length = 10 := by unfold headL; rw [List.length_append, length_tagL, length_wordL]
theorem headS_mk (f n : Nat) : headS f n = mkS (headL f n) := by unfold headS headL tagL; rw [sealS_mk]
theorem catL_nil : catL [] = [] := rfl
theorem catL_cons (F : List UInt8) (M : List (List UInt8)) : catL (F :: M) = wordL F.length ++ F ++ catL M := by unfold catL; rw [List.flatMap_cons]
theorem catL_append (L M : List (List UInt8)) : catL (L ++ M) = catL L ++ catL M := by unfold catL; rw [List.flatMap_append]
theorem numS_at (pre r : List UInt8) {m : Nat} (hm : m < 65536) : numS (mkS (pre ++ (wordL m ++ r))) pre.length = m := by
  unfold numS
  rw [bA_mkS, bA_mkS]
  have h0 : (pre ++ (wordL m ++ r)).getD pre.length 0 = UInt8.ofNat (m / 256) := by
    rw [List.getD_eq_getElem?_getD, List.getElem?_append_right (Nat.le_refl _), Nat.sub_self]; rfl
  have h1 : (pre ++ (wordL m ++ r)).getD (pre.length + 1) 0 = UInt8.ofNat (m % 256) := by
    rw [List.getD_eq_getElem?_getD, List.getElem?_append_right (by omega), Nat.add_sub_cancel_left]; rfl
  rw [h0, h1]
  simp
  omega
def posL : Nat → List (List UInt8) → List Nat
  | p, [] => [p]
  | p, F :: M => p :: posL (p + 2 + F.length) M
theorem posL_len : ∀ (L : List (List UInt8)) (p : Nat), (posL p L).length = L.length + 1
  | [], p => rfl
  | F :: M, p => by rw [posL, List.length_cons, posL_len M, List.length_cons]
theorem posL_at : ∀ (L : List (List UInt8)) (p j : Nat), j ≤ L.length → (posL p L)[j]? = some (p + (catL (L.take j)).length)
  | [], p, j, h => by
    obtain rfl : j = 0 := by simpa using h
    rfl
  | F :: M, p, 0, _ => rfl
  | F :: M, p, j + 1, h => by
    rw [posL, List.getElem?_cons_succ, posL_at M _ j (by simpa using h), List.take_succ_cons, catL_cons, List.length_append, List.length_append, length_wordL]
    congr 1; omega
theorem plF_cat : ∀ (M : List (List UInt8)) (pre : List UInt8) (acc : List Int), (∀ F ∈ M, F.length < 65536) →
    plF (mkS (pre ++ catL M)) M.length pre.length acc = (acc ++ (posL pre.length M).map (fun (n : Nat) => (n : Int)), 0)
  | [], pre, acc, _ => by
    have : pre.length = (mkS (pre ++ catL [])).size := by rw [size_mkS, catL_nil, List.append_nil]
    rw [List.length_nil, plF_end this]; rfl
  | F :: M, pre, acc, h => by
    have e : pre ++ catL (F :: M) = (pre ++ wordL F.length ++ F) ++ catL M := by rw [catL_cons]; simp only [List.append_assoc]
    have hn : numS (mkS (pre ++ catL (F :: M))) pre.length = F.length := by
      rw [catL_cons, List.append_assoc (wordL F.length)]; exact numS_at _ _ (h F (by simp))
    have hl : (pre ++ wordL F.length ++ F).length = pre.length + 2 + F.length := by simp only [List.length_append, length_wordL]
    have hz : (mkS (pre ++ catL (F :: M))).size = pre.length + 2 + F.length + (catL M).length := by rw [size_mkS, e, List.length_append, hl]
    rw [List.length_cons, plF_go (by rw [hn, hz]; omega), hn]
    have ih := plF_cat M (pre ++ wordL F.length ++ F) (acc ++ [(pre.length : Int)]) (fun G hG => h G (List.mem_cons_of_mem _ hG))
    rw [hl, ← e] at ih
    rw [ih, posL, List.map_cons, List.append_assoc]; rfl
section
variable {f n : Nat} {L : List (List UInt8)}
theorem gS_num (hf : f < 65536) (hn : n < 65536) : numS (gS f n L) 4 = f ∧ numS (gS f n L) 6 = n := by
  unfold gS headL tagL
  constructor
  · have := numS_at [83, 84, 69, 77] (wordL n ++ (wordL (crcF ([83, 84, 69, 77] ++ wordL f ++ wordL n) 65535) ++ catL L)) hf
    simp only [List.append_assoc] at this ⊢
    exact this
  · have := numS_at ([83, 84, 69, 77] ++ wordL f) (wordL (crcF ([83, 84, 69, 77] ++ wordL f ++ wordL n) 65535) ++ catL L) hn
    simp only [List.append_assoc] at this ⊢
    exact this
theorem infoF_g (hf : 16 ≤ f ∧ f ≤ 256) (hn : n ≤ 4000) : infoF (gS f n L) = ((n : Int), (f : Int), 0) := by
  have hz : 10 ≤ (gS f n L).size := by unfold gS; rw [size_mkS, List.length_append, length_headL]; omega
  obtain ⟨h4, h6⟩ := gS_num (L := L) (show f < 65536 by omega) (show n < 65536 by omega)
  have e8 : ((headL f n ++ catL L).drop 0).take (8 - 0) = tagL f n := by
    unfold headL
    rw [List.drop_zero, List.append_assoc, List.take_append_of_le_length (by rw [length_tagL]; omega), List.take_of_length_le (by rw [length_tagL]; omega)]
  have e10 : ((headL f n ++ catL L).drop 0).take (10 - 0) = headL f n := by
    rw [List.drop_zero, List.take_append_of_le_length (by rw [length_headL]; omega), List.take_of_length_le (by rw [length_headL]; omega)]
  have hs : stemB (gS f n L) = true := by
    unfold stemB gS
    rw [mkS_extract, toList_eq, data_mkS]; rfl
  have hh : headB (gS f n L) = true := by
    unfold headB gS
    rw [mkS_extract, mkS_extract, e8, e10]
    exact decide_eq_true (sealS_mk _)
  have hok : okB (gS f n L) = true := by
    unfold okB; rw [h4, h6, inB_true.2 (by omega), decide_eq_true hn]; rfl
  unfold infoF
  rw [if_neg (by omega), if_neg (by rw [hs]; simp), if_neg (by rw [hh]; simp), if_pos hok, h4, h6]
theorem cnt_g (hf : f < 65536) (hn : n < 65536) : cntF (gS f n L) = nch n f := by
  unfold cntF; rw [(gS_num hf hn).1, (gS_num hf hn).2]
/-- Such frames: as many as the head says, none of them too long. -/
def Frs (f n : Nat) (L : List (List UInt8)) : Prop := (16 ≤ f ∧ f ≤ 256) ∧ n ≤ 4000 ∧ L.length = nch n f ∧ ∀ F ∈ L, F.length < 65536
theorem placesF_g (h : Frs f n L) : placesF (gS f n L) = ((posL 10 L).map (fun (x : Nat) => (x : Int)), 0) := by
  obtain ⟨hf, hn, hL, hb⟩ := h
  unfold placesF
  rw [infoF_g hf hn, if_pos rfl, (gS_num (by omega) (by omega)).1, (gS_num (by omega) (by omega)).2, ← hL]
  have := plF_cat L (headL f n) [] hb
  rw [length_headL, List.nil_append] at this
  exact this
theorem plc_g (h : Frs f n L) {j : Nat} (hj : j ≤ L.length) : plc (gS f n L) j = 10 + (catL (L.take j)).length := by
  unfold plc
  rw [placesF_g h, List.getD_eq_getElem?_getD, List.getElem?_map, posL_at L 10 j hj]; rfl
theorem catL_split {j : Nat} {F : List UInt8} (hj : L[j]? = some F) : catL L = catL (L.take j) ++ wordL F.length ++ F ++ catL (L.drop (j + 1)) := by
  have hlt := (List.getElem?_eq_some_iff.1 hj).1
  have e : L = L.take j ++ F :: L.drop (j + 1) := by
    rw [← (List.getElem?_eq_some_iff.1 hj).2, ← List.drop_eq_getElem_cons hlt, List.take_append_drop]
  conv => lhs; rw [e]
  rw [catL_append, catL_cons]; simp only [List.append_assoc]
theorem catL_take {j : Nat} {F : List UInt8} (hj : L[j]? = some F) : (catL (L.take (j + 1))).length = (catL (L.take j)).length + 2 + F.length := by
  rw [take_snoc_of hj, catL_append, List.length_append, catL_cons, catL_nil, List.append_nil, List.length_append, length_wordL]; omega
theorem ext_g (h : Frs f n L) {j : Nat} {F : List UInt8} (hj : L[j]? = some F) : (gS f n L).extract (plc (gS f n L) j + 2) (plc (gS f n L) (j + 1)) = mkS F := by
  have hlt := (List.getElem?_eq_some_iff.1 hj).1
  rw [plc_g h (by omega), plc_g h (by omega), catL_take hj]
  unfold gS
  rw [mkS_extract, catL_split hj]
  congr 1
  have e : headL f n ++ (catL (L.take j) ++ wordL F.length ++ F ++ catL (L.drop (j + 1))) = (headL f n ++ catL (L.take j) ++ wordL F.length) ++ (F ++ catL (L.drop (j + 1))) := by simp only [List.append_assoc]
  have hl : (headL f n ++ catL (L.take j) ++ wordL F.length).length = 10 + (catL (L.take j)).length + 2 := by simp only [List.length_append, length_wordL, length_headL]
  rw [e, ← hl, List.drop_left, hl]
  have : 10 + ((catL (L.take j)).length + 2 + F.length) - (10 + (catL (L.take j)).length + 2) = F.length := by omega
  rw [this, List.take_left]
theorem frK_g (h : Frs f n L) {j : Nat} {F : List UInt8} (hj : L[j]? = some F) {xs : List Int} (hd : decFrF (mkS F) = (xs, 0)) (hx : xs.length = lenK n f j) : frK (gS f n L) j = (xs, 0) := by
  have hf := h.1; have hn := h.2.1
  unfold frK
  exact load3 (by rw [ext_g h hj]; exact hd) (by rw [hx, (gS_num (L := L) (show f < 65536 by omega) (show n < 65536 by omega)).1, (gS_num (L := L) (show f < 65536 by omega) (show n < 65536 by omega)).2])
theorem frK_gE (h : Frs f n L) {j : Nat} {F : List UInt8} (hj : L[j]? = some F) {xs : List Int} {c : Int} (hd : decFrF (mkS F) = (xs, c)) (hc : c ≠ 0) : frK (gS f n L) j = ([], c) := by
  unfold frK
  exact load1 (by rw [ext_g h hj]; exact hd) hc
end
/-- Frame bytes of a chunk. -/
def frB (c : List Int) : List UInt8 := (frameS c (ordR c).1 (ordR c).2).data.toList
def frTo (xs : List Int) (f j : Nat) : List (List UInt8) := (List.range j).map fun i => frB (chunkL xs f (i * f))
def frL (xs : List Int) (f : Nat) : List (List UInt8) := frTo xs f (nch xs.length f)
theorem bodyS_mk (c : List Int) : bodyS c = mkS (wordL (frB c).length ++ frB c) := by
  unfold bodyS frB
  rw [len_data, ← mkS_append, mkS_data]
theorem frTo_succ (xs : List Int) (f j : Nat) : frTo xs f (j + 1) = frTo xs f j ++ [frB (chunkL xs f (j * f))] := by unfold frTo; rw [List.range_succ, List.map_append]; rfl
theorem bodyTo_mk (xs : List Int) (f : Nat) : ∀ j, bodyTo xs f j = mkS (catL (frTo xs f j))
  | 0 => rfl
  | j + 1 => by
    rw [bodyTo, bodyTo_mk xs f j, bodyS_mk, mkS_append, frTo_succ, catL_append, catL_cons, catL_nil, List.append_nil]
theorem storeS_g (xs : List Int) (f : Nat) : storeS xs f = gS f xs.length (frL xs f) := by
  unfold storeS gS frL
  rw [headS_mk, bodyTo_mk, mkS_append]
theorem frTo_at {xs : List Int} {f m j : Nat} (h : j < m) : (frTo xs f m)[j]? = some (frB (chunkL xs f (j * f))) := by
  unfold frTo; rw [List.getElem?_map, List.getElem?_range h]; rfl
theorem frB_len {c : List Int} (hs : ∀ x ∈ c, Smp x) (hl : c.length ≤ 256) : (frB c).length < 65536 := by
  have := size_frameS hs hl
  unfold frB; rw [len_data]; omega
theorem frB_dec {c : List Int} (hs : ∀ x ∈ c, Smp x) (hl : c.length ≤ 256) : decFrF (mkS (frB c)) = (c, 0) := by
  unfold frB; rw [mkS_data]; exact decFrF_frameS hs hl (ordR_bd hs).1 (ordR_bd hs).2
theorem frs_store {xs : List Int} {f : Nat} (hs : ∀ x ∈ xs, Smp x) (hn : xs.length ≤ 4000) (hf : 16 ≤ f ∧ f ≤ 256) : Frs f xs.length (frL xs f) := by
  refine ⟨hf, hn, by simp [frL, frTo], fun F hF => ?_⟩
  simp only [frL, frTo, List.mem_map] at hF
  obtain ⟨i, _, rfl⟩ := hF
  exact frB_len (smp_chunk hs _ _) (Nat.le_trans (length_chunk _ _ _) hf.2)
theorem chunk_len (xs : List Int) (f j : Nat) : (chunkL xs f (j * f)).length = lenK xs.length f j := by
  unfold chunkL lenK; rw [List.length_take, List.length_drop]
theorem frK_store {xs : List Int} {f : Nat} (hs : ∀ x ∈ xs, Smp x) (hn : xs.length ≤ 4000) (hf : 16 ≤ f ∧ f ≤ 256) {j : Nat} (hj : j < nch xs.length f) : frK (storeS xs f) j = (chunkL xs f (j * f), 0) := by
  rw [storeS_g]
  exact frK_g (frs_store hs hn hf) (frTo_at hj) (frB_dec (smp_chunk hs _ _) (Nat.le_trans (length_chunk _ _ _) hf.2)) (chunk_len _ _ _)
/-- Samples fr to fr + n, when the frames that hold them are whole. -/
theorem part_step (xs : List Int) {f fr n k : Nat} (h : k * f < fr + n) (hfr : fr + n ≤ xs.length) (h0 : fr / f ≤ k) (hf : 16 ≤ f) :
    (xs.drop fr).take (min n (k * f - fr)) ++ midL (chunkL xs f (k * f)) (fr - k * f) (min (chunkL xs f (k * f)).length (fr + n - k * f)) (chunkL xs f (k * f)).length = (xs.drop fr).take (min n ((k + 1) * f - fr)) := by
  have hlow : fr < (k + 1) * f := by
    have := Nat.lt_mul_div_succ fr (show 0 < f by omega)
    have h2 : f * (fr / f + 1) ≤ f * (k + 1) := Nat.mul_le_mul_left f (by omega)
    rw [Nat.mul_comm (k + 1) f]; omega
  have e1 : (k + 1) * f = k * f + f := by rw [Nat.add_mul, Nat.one_mul]
  rw [e1] at hlow ⊢
  generalize k * f = a at *
  have hm : midL (chunkL xs f a) (fr - a) (min (chunkL xs f a).length (fr + n - a)) (chunkL xs f a).length = ((xs.drop fr).take (min n (a + f - fr))).drop (min n (a - fr)) := by
    unfold midL chunkL
    rw [List.length_take, List.length_drop]
    by_cases h1 : a ≤ fr
    · have e0 : min n (a - fr) = 0 := by omega
      rw [e0, List.drop_zero, List.take_take, List.drop_take, List.drop_drop]
      have : a + (fr - a) = fr := by omega
      rw [this]
      congr 1
      omega
    · have e0 : min n (a - fr) = a - fr := by omega
      have e2 : fr - a = 0 := by omega
      rw [e0, e2, List.drop_zero, List.take_take, List.drop_take, List.drop_drop]
      have : fr + (a - fr) = a := by omega
      rw [this]
      congr 1
      omega
  rw [hm]
  have e3 : (xs.drop fr).take (min n (a - fr)) = ((xs.drop fr).take (min n (a + f - fr))).take (min n (a - fr)) := by
    rw [List.take_take]; congr 1; omega
  rw [e3, List.take_append_drop]
theorem rngF_of {s : ByteArray} {xs : List Int} {f fr n : Nat} (h4 : numS s 4 = f) (hf : 16 ≤ f) (hfr : fr + n ≤ xs.length) :
    ∀ (c k : Nat), fr / f ≤ k → c + k = endK f fr n → (∀ j, k ≤ j → j < endK f fr n → frK s j = (chunkL xs f (j * f), 0)) →
      rngF s fr n c k ((xs.drop fr).take (min n (k * f - fr))) = ((xs.drop fr).take n, 0)
  | 0, k, hk, hc, _ => by
    have : ¬ (0 < n ∧ k * f < fr + n) := by rw [endK_iff hf hk]; omega
    simp only [rngF]
    congr 2; omega
  | c + 1, k, hk, hc, h => by
    have hin := (endK_iff (fr := fr) (n := n) hf hk).2 (by omega)
    have hF := h k (Nat.le_refl _) (by omega)
    rw [rngF_go (by rw [hF])]
    have hp : partK s fr n k = midL (chunkL xs f (k * f)) (fr - k * f) (min (chunkL xs f (k * f)).length (fr + n - k * f)) (chunkL xs f (k * f)).length := by
      unfold partK; rw [hF, h4]
    rw [hp, part_step xs hin.2 hfr hk hf]
    exact rngF_of h4 hf hfr c (k + 1) (by omega) (by omega) fun j h1 h2 => h j (by omega) h2
theorem rangeF_of {s : ByteArray} {xs : List Int} {f fr n : Nat} (h4 : numS s 4 = f) (hf : 16 ≤ f) (hfr : fr + n ≤ xs.length)
    (h : ∀ j, fr / f ≤ j → j < endK f fr n → frK s j = (chunkL xs f (j * f), 0)) : rangeF s fr n = ((xs.drop fr).take n, 0) := by
  have := rngF_of h4 hf hfr (endK f fr n - fr / f) (fr / f) (Nat.le_refl _) (by have := endK_ge f fr n; omega) h
  have e : min n (fr / f * f - fr) = 0 := by have := Nat.div_mul_le_self fr f; omega
  rw [e, List.take_zero] at this
  unfold rangeF; rw [h4]; exact this
theorem endK_nch {f fr n m : Nat} (hf : 16 ≤ f) (h : fr + n ≤ m) {j : Nat} (h0 : fr / f ≤ j) (hj : j < endK f fr n) : j < nch m f := by
  have := (endK_iff (fr := fr) (n := n) hf h0).2 hj
  exact (nch_lt hf).2 (by omega)
theorem rangeF_store {xs : List Int} {f fr n : Nat} (hs : ∀ x ∈ xs, Smp x) (hn : xs.length ≤ 4000) (hf : 16 ≤ f ∧ f ≤ 256) (hfr : fr + n ≤ xs.length) : rangeF (storeS xs f) fr n = ((xs.drop fr).take n, 0) :=
  rangeF_of (by rw [storeS_g]; exact (gS_num (by omega) (by omega)).1) hf.1 hfr fun j h0 hj => frK_store hs hn hf (endK_nch hf.1 hfr h0 hj)
/-- All frames from one on are whole. -/
theorem nch_end {m f : Nat} (hf : 16 ≤ f) : m ≤ nch m f * f := by
  have := (nch_lt (n := m) (f := f) (j := nch m f) hf)
  omega
theorem salF_all {s : ByteArray} {xs : List Int} {f : Nat} (hf : 16 ≤ f) : ∀ (c j : Nat) (out bad : List Int), c + j = nch xs.length f → (∀ i, j ≤ i → i < nch xs.length f → frK s i = (chunkL xs f (i * f), 0)) →
    salF s c j out bad = (out ++ xs.drop (j * f), bad)
  | 0, j, out, bad, hc, _ => by
    have := nch_end (m := xs.length) hf
    rw [← hc, Nat.zero_add] at this
    rw [List.drop_eq_nil_of_le this, List.append_nil]; rfl
  | c + 1, j, out, bad, hc, h => by
    rw [salF_go (h j (Nat.le_refl _) (by omega)), salF_all hf c (j + 1) _ _ (by omega) (fun i h1 h2 => h i (by omega) h2), List.append_assoc]
    congr 2
    unfold chunkL
    rw [Nat.add_mul, Nat.one_mul, ← List.drop_drop, List.take_append_drop]
theorem salF_dmg {s : ByteArray} {xs : List Int} {f k : Nat} {e : Int} (hf : 16 ≤ f) (h6 : numS s 6 = xs.length) (h4 : numS s 4 = f) (hk : k < nch xs.length f) (he : e ≠ 0) (hke : frK s k = ([], e))
    (h : ∀ i, i < nch xs.length f → i ≠ k → frK s i = (chunkL xs f (i * f), 0)) : ∀ (d j : Nat) (out bad : List Int), d + j = k →
    salF s (nch xs.length f - j) j out bad = (out ++ (xs.drop (j * f)).take (k * f - j * f) ++ List.replicate (lenK xs.length f k) 0 ++ xs.drop ((k + 1) * f), bad ++ [(k : Int)])
  | 0, j, out, bad, hd => by
    obtain rfl : j = k := by omega
    obtain ⟨c, hc⟩ : ∃ c, nch xs.length f - j = c + 1 := ⟨nch xs.length f - j - 1, by omega⟩
    rw [hc, salF_no hke he, salF_all hf c (j + 1) _ _ (by omega) (fun i h1 h2 => h i h2 (by omega)), h6, h4, Nat.sub_self, List.take_zero, List.append_nil]
  | d + 1, j, out, bad, hd => by
    obtain ⟨c, hc⟩ : ∃ c, nch xs.length f - j = c + 1 := ⟨nch xs.length f - j - 1, by omega⟩
    have hc2 : c = nch xs.length f - (j + 1) := by omega
    rw [hc, salF_go (h j (by omega) (by omega)), hc2, salF_dmg hf h6 h4 hk he hke h d (j + 1) _ _ (by omega)]
    have h1 : (j + 1) * f ≤ k * f := Nat.mul_le_mul_right f (by omega)
    have h2 : (j + 1) * f = j * f + f := by rw [Nat.add_mul, Nat.one_mul]
    have h3 : (xs.drop (j * f)).take (k * f - j * f) = chunkL xs f (j * f) ++ (xs.drop ((j + 1) * f)).take (k * f - (j + 1) * f) := by
      unfold chunkL
      rw [h2] at h1 ⊢
      generalize j * f = a at *
      rw [show k * f - a = f + (k * f - (a + f)) by omega, List.take_add, List.drop_drop]
    rw [h3]; simp only [List.append_assoc]
theorem salvF_store {xs : List Int} {f : Nat} (hs : ∀ x ∈ xs, Smp x) (hn : xs.length ≤ 4000) (hf : 16 ≤ f ∧ f ≤ 256) : salvF (storeS xs f) = (xs, []) := by
  have hc : cntF (storeS xs f) = nch xs.length f := by rw [storeS_g]; exact cnt_g (by omega) (by omega)
  unfold salvF
  rw [hc, salF_all hf.1 (nch xs.length f) 0 [] [] (by omega) fun i _ h2 => frK_store hs hn hf h2]
  simp
end
section
open Go.RowKit
section
variable {f n : Nat} {L : List (List UInt8)}
theorem catL_set {k : Nat} (hk : k < L.length) (G : List UInt8) : catL (L.set k G) = catL (L.take k) ++ wordL G.length ++ G ++ catL (L.drop (k + 1)) := by
  rw [List.set_eq_take_append_cons_drop, if_pos hk, catL_append, catL_cons]; simp only [List.append_assoc]
theorem set_g (h : Frs f n L) {k r : Nat} {F : List UInt8} (hk : L[k]? = some F) (hr : r < F.length) (z : UInt8) :
    mkS ((gS f n L).data.toList.set (plc (gS f n L) k + 2 + r) z) = gS f n (L.set k (F.set r z)) := by
  have hlt := (List.getElem?_eq_some_iff.1 hk).1
  rw [plc_g h (by omega)]
  unfold gS
  rw [data_mkS]
  congr 1
  have e1 : headL f n ++ catL L = (headL f n ++ catL (L.take k) ++ wordL F.length) ++ (F ++ catL (L.drop (k + 1))) := by rw [catL_split hk]; simp only [List.append_assoc]
  have hl : (headL f n ++ catL (L.take k) ++ wordL F.length).length = 10 + (catL (L.take k)).length + 2 := by simp only [List.length_append, length_wordL, length_headL]
  rw [e1, ← hl, List.set_append_right _ _ (by omega), Nat.add_sub_cancel_left, List.set_append_left _ _ hr, catL_set hlt, List.length_set]
  simp only [List.append_assoc]
theorem cut_g (h : Frs f n L) {k : Nat} (hk : k < L.length) (G : List UInt8) :
    (gS f n L).extract 0 (plc (gS f n L) k) ++ mkS (wordL G.length ++ G) ++ (gS f n L).extract (plc (gS f n L) (k + 1)) (gS f n L).size = gS f n (L.set k G) := by
  have hF := List.getElem?_eq_getElem hk
  rw [plc_g h (by omega), plc_g h (by omega), catL_take hF]
  unfold gS
  rw [size_mkS, mkS_extract, mkS_extract, mkS_append, mkS_append, catL_set hk]
  congr 1
  have e1 : headL f n ++ catL L = (headL f n ++ catL (L.take k)) ++ (wordL L[k].length ++ L[k] ++ catL (L.drop (k + 1))) := by rw [catL_split hF]; simp only [List.append_assoc]
  have e2 : headL f n ++ catL L = (headL f n ++ catL (L.take k) ++ wordL L[k].length ++ L[k]) ++ catL (L.drop (k + 1)) := by rw [e1]; simp only [List.append_assoc]
  have l1 : (headL f n ++ catL (L.take k)).length = 10 + (catL (L.take k)).length := by rw [List.length_append, length_headL]
  have l2 : (headL f n ++ catL (L.take k) ++ wordL L[k].length ++ L[k]).length = 10 + ((catL (L.take k)).length + 2 + L[k].length) := by simp only [List.length_append, length_wordL, length_headL]; omega
  have a1 : ((headL f n ++ catL L).drop 0).take (10 + (catL (L.take k)).length - 0) = headL f n ++ catL (L.take k) := by
    rw [List.drop_zero, Nat.sub_zero, e1, ← l1, List.take_left]
  have a2 : ((headL f n ++ catL L).drop (10 + ((catL (L.take k)).length + 2 + L[k].length))).take ((headL f n ++ catL L).length - (10 + ((catL (L.take k)).length + 2 + L[k].length))) = catL (L.drop (k + 1)) := by
    rw [List.take_of_length_le (by rw [List.length_drop]; omega), e2, ← l2, List.drop_left]
  rw [a1, a2]
  simp only [List.append_assoc]
end
section
variable {xs ys : List Int} {f k j : Nat} {G : List UInt8}
theorem frs_set (hs : ∀ x ∈ xs, Smp x) (hn : xs.length ≤ 4000) (hf : 16 ≤ f ∧ f ≤ 256) (hG : G.length < 65536) : Frs f xs.length ((frL xs f).set k G) := by
  obtain ⟨h1, h2, h3, h4⟩ := frs_store hs hn hf
  refine ⟨h1, h2, by rw [List.length_set]; exact h3, fun F hF => ?_⟩
  rcases List.mem_or_eq_of_mem_set hF with h | rfl
  · exact h4 F h
  · exact hG
theorem frK_set_ne (hs : ∀ x ∈ xs, Smp x) (hn : xs.length ≤ 4000) (hf : 16 ≤ f ∧ f ≤ 256) (hG : G.length < 65536) (hj : j < nch xs.length f) (hjk : j ≠ k) :
    frK (gS f xs.length ((frL xs f).set k G)) j = (chunkL xs f (j * f), 0) :=
  frK_g (frs_set hs hn hf hG) (by rw [List.getElem?_set_ne (Ne.symm hjk)]; exact frTo_at hj) (frB_dec (smp_chunk hs _ _) (Nat.le_trans (length_chunk _ _ _) hf.2)) (chunk_len _ _ _)
theorem len_frL (xs : List Int) (f : Nat) : (frL xs f).length = nch xs.length f := by simp [frL, frTo]
theorem frK_set_eq (hs : ∀ x ∈ xs, Smp x) (hn : xs.length ≤ 4000) (hf : 16 ≤ f ∧ f ≤ 256) (hy : ∀ y ∈ ys, Smp y) (hk : k < nch xs.length f) (hl : ys.length = lenK xs.length f k) :
    frK (gS f xs.length ((frL xs f).set k (frB ys))) k = (ys, 0) := by
  have h256 : ys.length ≤ 256 := by rw [hl]; unfold lenK; omega
  exact frK_g (frs_set hs hn hf (frB_len hy h256)) (by rw [List.getElem?_set_self (by rw [len_frL]; exact hk)]) (frB_dec hy h256) hl
theorem frB_six {c : List Int} (hs : ∀ x ∈ c, Smp x) (hl : c.length ≤ 256) : 6 ≤ (frB c).length := by
  have := size_frameS hs hl
  unfold frB; rw [len_data]; omega
theorem frB_bad {c : List Int} (hs : ∀ x ∈ c, Smp x) (hl : c.length ≤ 256) {r : Nat} {z : UInt8} (hr : r < (frB c).length) (hz : z ≠ (frB c)[r]) : decFrF (mkS ((frB c).set r z)) = ([], 10) := by
  have h6 := frB_six hs hl
  refine dfr2 (by rw [size_mkS, List.length_set]; omega) ?_
  have e : frB c = frameL c (ordR c).1 (ordR c).2 ++ wordL (crcF (frameL c (ordR c).1 (ordR c).2) 65535) := by unfold frB frameS; rw [sealS_mk, data_mkS]
  have : ∀ (l : List UInt8), l = frameL c (ordR c).1 (ordR c).2 ++ wordL (crcF (frameL c (ordR c).1 (ordR c).2) 65535) → ∀ (hr : r < l.length), z ≠ l[r] → sealedB (mkS (l.set r z)) = false := by
    rintro l rfl hr hz
    exact sealed_set _ r z hr hz
  exact this _ e hr hz
theorem opens_g {n : Nat} {L : List (List UInt8)} (h : Frs f n L) : ∃ ps, placesF (gS f n L) = (ps, 0) := ⟨_, placesF_g h⟩
/-- The list of which frame k is laid anew. -/
def newL (xs : List Int) (a : Nat) (ys : List Int) : List Int := xs.take a ++ ys ++ xs.drop (a + ys.length)
theorem newL_len {a : Nat} (h : a + ys.length ≤ xs.length) : (newL xs a ys).length = xs.length := by
  unfold newL; rw [List.length_append, List.length_append, List.length_take, List.length_drop]; omega
theorem newL_at {a : Nat} (h : a + ys.length ≤ xs.length) (m : Nat) : (newL xs a ys)[m]? = if m < a then xs[m]? else if m < a + ys.length then ys[m - a]? else xs[m]? := by
  unfold newL
  have hl : (xs.take a).length = a := by rw [List.length_take]; omega
  by_cases h1 : m < a
  · rw [if_pos h1, List.append_assoc, List.getElem?_append_left (by omega), List.getElem?_take_of_lt h1]
  · rw [if_neg h1]
    by_cases h2 : m < a + ys.length
    · rw [if_pos h2, List.append_assoc, List.getElem?_append_right (by omega), hl, List.getElem?_append_left (by omega)]
    · rw [if_neg h2, List.append_assoc, List.getElem?_append_right (by omega), hl, List.getElem?_append_right (by omega), List.getElem?_drop]
      congr 1; omega
theorem chunk_new_ne (hf : 0 < f) (h : k * f + ys.length ≤ xs.length) (hl : ys.length ≤ f) (hjk : j ≠ k) : chunkL (newL xs (k * f) ys) f (j * f) = chunkL xs f (j * f) := by
  unfold chunkL
  apply List.ext_getElem?
  intro i
  by_cases hi : i < f
  · rw [List.getElem?_take_of_lt hi, List.getElem?_take_of_lt hi, List.getElem?_drop, List.getElem?_drop, newL_at h]
    rcases Nat.lt_or_gt_of_ne hjk with h1 | h1
    · have h2 : (j + 1) * f ≤ k * f := Nat.mul_le_mul_right f (by omega)
      rw [Nat.add_mul, Nat.one_mul] at h2
      rw [if_pos (by omega)]
    · have h2 : (k + 1) * f ≤ j * f := Nat.mul_le_mul_right f (by omega)
      rw [Nat.add_mul, Nat.one_mul] at h2
      rw [if_neg (by omega), if_neg (by omega)]
  · rw [List.getElem?_eq_none (by rw [List.length_take]; omega), List.getElem?_eq_none (by rw [List.length_take]; omega)]
theorem chunk_new_eq (h : ys.length = lenK xs.length f k) (hk : k * f ≤ xs.length) : chunkL (newL xs (k * f) ys) f (k * f) = ys := by
  have hle : k * f + ys.length ≤ xs.length := by rw [h]; unfold lenK; omega
  unfold chunkL
  apply List.ext_getElem?
  intro i
  unfold lenK at h
  by_cases hi : i < f
  · rw [List.getElem?_take_of_lt hi, List.getElem?_drop, newL_at hle, if_neg (by omega)]
    by_cases h2 : k * f + i < k * f + ys.length
    · rw [if_pos h2, Nat.add_sub_cancel_left]
    · rw [if_neg h2, List.getElem?_eq_none (by omega), List.getElem?_eq_none (by omega)]
  · rw [List.getElem?_eq_none (by rw [List.length_take]; omega), List.getElem?_eq_none (by omega)]
theorem rplF_store (hs : ∀ x ∈ xs, Smp x) (hn : xs.length ≤ 4000) (hf : 16 ≤ f ∧ f ≤ 256) (hy : ∀ y ∈ ys, Smp y) (hk : k < nch xs.length f) (hl : ys.length = lenK xs.length f k) :
    rplF (storeS xs f) (k : Int) ys = (gS f xs.length ((frL xs f).set k (frB ys)), 0) := by
  have hF := frs_store hs hn hf
  have hc : cntF (storeS xs f) = nch xs.length f := by rw [storeS_g]; exact cnt_g (by omega) (by omega)
  have h46 := gS_num (L := frL xs f) (show f < 65536 by omega) (show xs.length < 65536 by omega)
  rw [← storeS_g] at h46
  have hp := placesF_g hF
  rw [← storeS_g] at hp
  have hsg : sigB ys = true := sigB_true.2 ⟨by rw [hl]; unfold lenK; omega, hy⟩
  have hcut : (storeS xs f).extract 0 (plc (storeS xs f) k) ++ mkS (wordL (frB ys).length ++ frB ys) ++ (storeS xs f).extract (plc (storeS xs f) (k + 1)) (storeS xs f).size = gS f xs.length ((frL xs f).set k (frB ys)) := by
    rw [storeS_g]
    exact cut_g hF (by rw [len_frL]; exact hk) _
  rw [rpl5 hsg hp (by rw [hc, inB_true]; omega) (by rw [h46.1, h46.2]; exact hl), bodyS_mk, hcut]
/-- A store of which a frame was replaced is loaded whole. -/
theorem range_new (hs : ∀ x ∈ xs, Smp x) (hn : xs.length ≤ 4000) (hf : 16 ≤ f ∧ f ≤ 256) (hy : ∀ y ∈ ys, Smp y) (hk : k < nch xs.length f) (hl : ys.length = lenK xs.length f k) :
    rangeF (gS f xs.length ((frL xs f).set k (frB ys))) 0 xs.length = (newL xs (k * f) ys, 0) := by
  have hkf := (nch_lt hf.1).1 hk
  have hle : k * f + ys.length ≤ xs.length := by rw [hl]; unfold lenK; omega
  have h256 : ys.length ≤ 256 := by rw [hl]; unfold lenK; omega
  have hyf : ys.length ≤ f := by rw [hl]; unfold lenK; omega
  have hnl := newL_len hle
  have := rangeF_of (s := gS f xs.length ((frL xs f).set k (frB ys))) (xs := newL xs (k * f) ys) (f := f) (fr := 0) (n := xs.length) (gS_num (by omega) (by omega)).1 hf.1 (by rw [hnl]; omega) fun j h0 hj => by
    have hjn := endK_nch (m := xs.length) hf.1 (by omega) h0 hj
    by_cases hjk : j = k
    · subst hjk
      rw [frK_set_eq hs hn hf hy hk hl, chunk_new_eq hl (by omega)]
    · rw [frK_set_ne hs hn hf (frB_len hy h256) hjn hjk, chunk_new_ne (by omega) hle hyf hjk]
  rw [this, List.drop_zero, List.take_of_length_le (by omega)]
end
/-- A store of which one frame has turned. -/
structure Dmg (xs : List Int) (f k : Nat) (t : ByteArray) : Prop where
  smp : ∀ x ∈ xs, Smp x
  n4 : xs.length ≤ 4000
  f1 : 16 ≤ f ∧ f ≤ 256
  lt : k < nch xs.length f
  opens : ∃ ps, placesF t = (ps, 0)
  num4 : numS t 4 = f
  num6 : numS t 6 = xs.length
  bad : frK t k = ([], 10)
  good : ∀ j, j < nch xs.length f → j ≠ k → frK t j = (chunkL xs f (j * f), 0)
theorem dmg_of {xs : List Int} {f k r : Nat} {z : UInt8} (hs : ∀ x ∈ xs, Smp x) (hn : xs.length ≤ 4000) (hf : 16 ≤ f ∧ f ≤ 256) (hk : k < nch xs.length f) (hr : r < (frB (chunkL xs f (k * f))).length)
    (hz : z ≠ (frB (chunkL xs f (k * f)))[r]) : Dmg xs f k (mkS ((storeS xs f).data.toList.set (plc (storeS xs f) k + 2 + r) z)) := by
  have hF := frs_store hs hn hf
  have hat : (frL xs f)[k]? = some (frB (chunkL xs f (k * f))) := frTo_at hk
  have h256 := Nat.le_trans (length_chunk xs f (k * f)) hf.2
  rw [storeS_g, set_g hF hat hr]
  have hG : ((frB (chunkL xs f (k * f))).set r z).length < 65536 := by rw [List.length_set]; exact frB_len (smp_chunk hs _ _) h256
  have hF2 := frs_set (k := k) hs hn hf hG
  have h46 := gS_num (L := (frL xs f).set k ((frB (chunkL xs f (k * f))).set r z)) (show f < 65536 by omega) (show xs.length < 65536 by omega)
  exact ⟨hs, hn, hf, hk, opens_g hF2, h46.1, h46.2, frK_gE hF2 (by rw [List.getElem?_set_self (by rw [len_frL]; exact hk)]) (frB_bad (smp_chunk hs _ _) h256 hr hz) (by decide),
    fun j hj hjk => frK_set_ne hs hn hf hG hj hjk⟩
section
variable {xs : List Int} {f k : Nat} {t : ByteArray}
theorem Dmg.cnt (h : Dmg xs f k t) : cntF t = nch xs.length f := by unfold cntF; rw [h.num4, h.num6]
theorem Dmg.salv (h : Dmg xs f k t) : salvF t = (xs.take (k * f) ++ List.replicate (lenK xs.length f k) 0 ++ xs.drop ((k + 1) * f), [(k : Int)]) := by
  have := salF_dmg h.f1.1 h.num6 h.num4 h.lt (by decide) h.bad (fun i hi hik => h.good i hi hik) k 0 [] [] (by omega)
  unfold salvF
  rw [h.cnt]
  simpa using this
theorem Dmg.before (h : Dmg xs f k t) : rangeF t 0 (k * f) = (xs.take (k * f), 0) := by
  have hkf := (nch_lt h.f1.1).1 h.lt
  have := rangeF_of (fr := 0) (n := k * f) h.num4 h.f1.1 (xs := xs) (by omega) fun j h0 hj => by
    have h1 := (endK_iff (fr := 0) (n := k * f) h.f1.1 h0).2 hj
    have hjk : j < k := by
      have : j * f < k * f := by omega
      exact Nat.lt_of_mul_lt_mul_right this
    exact h.good j (by have := h.lt; omega) (by omega)
  rw [this, List.drop_zero]
theorem Dmg.behind (h : Dmg xs f k t) : rangeF t (min ((k + 1) * f) xs.length) (xs.length - min ((k + 1) * f) xs.length) = (xs.drop (min ((k + 1) * f) xs.length), 0) := by
  have := rangeF_of (fr := min ((k + 1) * f) xs.length) (n := xs.length - min ((k + 1) * f) xs.length) h.num4 h.f1.1 (xs := xs) (by omega) fun j h0 hj => by
    have h1 := (endK_iff (fr := min ((k + 1) * f) xs.length) (n := xs.length - min ((k + 1) * f) xs.length) h.f1.1 h0).2 hj
    have hjn : j < nch xs.length f := (nch_lt h.f1.1).2 (by omega)
    have hm : min ((k + 1) * f) xs.length = (k + 1) * f := by omega
    rw [hm, Nat.mul_div_cancel _ (by have := h.f1.1; omega)] at h0
    exact h.good j hjn (by omega)
  rw [this, List.take_of_length_le (by rw [List.length_drop]; omega)]
theorem rngF_bad (h : Dmg xs f k t) : ∀ (d c j : Nat) (acc : List Int), d + j = k → d < c → rngF t 0 xs.length c j acc = ([], 10)
  | 0, c, j, acc, hd, hc => by
    obtain rfl : j = k := by omega
    obtain ⟨c', rfl⟩ : ∃ c', c = c' + 1 := ⟨c - 1, by omega⟩
    exact rngF_no h.bad (by decide)
  | d + 1, c, j, acc, hd, hc => by
    obtain ⟨c', rfl⟩ : ∃ c', c = c' + 1 := ⟨c - 1, by omega⟩
    rw [rngF_go (by rw [h.good j (by have := h.lt; omega) (by omega)])]
    exact rngF_bad h d c' (j + 1) _ (by omega) (by omega)
theorem Dmg.whole (h : Dmg xs f k t) : rangeF t 0 xs.length = ([], 10) := by
  unfold rangeF
  rw [h.num4, Nat.zero_div]
  refine rngF_bad h k _ 0 [] (by omega) ?_
  have hkf := (nch_lt h.f1.1).1 h.lt
  have := (endK_iff (fr := 0) (n := xs.length) (k := k) h.f1.1 (by rw [Nat.zero_div]; omega)).1 ⟨by omega, by omega⟩
  omega
end
/-- Samples appended to a store. -/
theorem nch_split {n m f : Nat} (hf : 16 ≤ f) (hq : n / f * f ≤ n + m) : nch (n + m) f = n / f + nch (n + m - n / f * f) f := by
  unfold nch
  generalize n / f = q at *
  have e : n + m + f - 1 = (n + m - q * f + f - 1) + q * f := by omega
  rw [e, Nat.add_mul_div_right _ _ (by omega)]
  omega
theorem chunk_app {xs ys : List Int} {f j : Nat} (h : (j + 1) * f ≤ xs.length) : chunkL (xs ++ ys) f (j * f) = chunkL xs f (j * f) := by
  unfold chunkL
  rw [Nat.add_mul, Nat.one_mul] at h
  rw [List.drop_append_of_le_length (by omega), List.take_append_of_le_length (by rw [List.length_drop]; omega)]
theorem chunk_drop (xs : List Int) (f q j : Nat) : chunkL (xs.drop (q * f)) f (j * f) = chunkL xs f ((q + j) * f) := by
  unfold chunkL; rw [List.drop_drop, Nat.add_mul]
theorem restK_store {xs : List Int} {f : Nat} (hs : ∀ x ∈ xs, Smp x) (hn : xs.length ≤ 4000) (hf : 16 ≤ f ∧ f ≤ 256) : restK (storeS xs f) = (xs.drop (xs.length / f * f), 0) := by
  have h46 := gS_num (L := frL xs f) (show f < 65536 by omega) (show xs.length < 65536 by omega)
  rw [← storeS_g] at h46
  have hd := Nat.div_add_mod xs.length f
  have hm := Nat.mod_lt xs.length (show 0 < f by omega)
  rw [Nat.mul_comm] at hd
  unfold restK
  rw [h46.1, h46.2]
  by_cases h0 : xs.length % f = 0
  · rw [if_pos h0, List.drop_eq_nil_of_le (by omega)]
  · rw [if_neg h0, frK_store hs hn hf ((nch_lt hf.1).2 (by omega))]
    congr 1
    unfold chunkL
    exact List.take_of_length_le (by rw [List.length_drop]; omega)
theorem frTo_split {xs ys : List Int} {f : Nat} (hf : 16 ≤ f) : frL (xs ++ ys) f = frTo xs f (xs.length / f) ++ frL ((xs ++ ys).drop (xs.length / f * f)) f := by
  have hq := Nat.div_mul_le_self xs.length f
  unfold frL frTo
  have hl : ((xs ++ ys).drop (xs.length / f * f)).length = xs.length + ys.length - xs.length / f * f := by rw [List.length_drop, List.length_append]
  rw [hl, List.length_append, nch_split hf (by omega), List.range_add, List.map_append, List.map_map]
  congr 1
  · apply List.map_congr_left
    intro j hj
    rw [List.mem_range] at hj
    rw [chunk_app]
    exact Nat.le_trans (Nat.mul_le_mul_right f (show j + 1 ≤ xs.length / f by omega)) hq
  · apply List.map_congr_left
    intro j _
    rw [chunk_drop]; rfl
theorem frTo_take {xs : List Int} {f m j : Nat} (h : j ≤ m) : (frTo xs f m).take j = frTo xs f j := by
  unfold frTo; rw [← List.map_take, List.take_range, Nat.min_eq_left h]
theorem apdF_store {xs ys : List Int} {f : Nat} (hs : ∀ x ∈ xs, Smp x) (hy : ∀ y ∈ ys, Smp y) (hn : xs.length + ys.length ≤ 4000) (hf : 16 ≤ f ∧ f ≤ 256) : apdF (storeS xs f) ys = (storeS (xs ++ ys) f, 0) := by
  have hF := frs_store hs (by omega) hf
  have h46 := gS_num (L := frL xs f) (show f < 65536 by omega) (show xs.length < 65536 by omega)
  have hp := placesF_g hF
  have hq := Nat.div_mul_le_self xs.length f
  have hqn : xs.length / f ≤ nch xs.length f := by
    unfold nch; exact Nat.div_le_div_right (by omega)
  have hplc := plc_g hF (j := xs.length / f) (by rw [len_frL]; exact hqn)
  rw [show (frL xs f).take (xs.length / f) = frTo xs f (xs.length / f) from frTo_take hqn] at hplc
  rw [← storeS_g] at h46 hp hplc
  have hr := restK_store hs (by omega) hf
  rw [apd5 (sigB_true.2 ⟨by omega, hy⟩) hp (by rw [h46.2]; omega) hr]
  congr 1
  have hall : allL (storeS xs f) ys = (xs ++ ys).drop (xs.length / f * f) := by
    unfold allL; rw [hr, List.drop_append_of_le_length hq]
  unfold apdS
  rw [hall, h46.1, h46.2, hplc, storeS_g (xs ++ ys) f, headS_mk, bodyTo_mk]
  have hcut : (storeS xs f).extract 10 (10 + (catL (frTo xs f (xs.length / f))).length) = mkS (catL (frTo xs f (xs.length / f))) := by
    rw [storeS_g]
    unfold gS
    rw [mkS_extract, show (10 : Nat) + (catL (frTo xs f (xs.length / f))).length - 10 = (catL (frTo xs f (xs.length / f))).length by omega]
    congr 1
    have e : frL xs f = frTo xs f (xs.length / f) ++ (frL xs f).drop (xs.length / f) := by
      conv => lhs; rw [← List.take_append_drop (xs.length / f) (frL xs f)]
      rw [show (frL xs f).take (xs.length / f) = frTo xs f (xs.length / f) from frTo_take hqn]
    rw [e, catL_append]
    have hl10 := length_headL f xs.length
    have e10 : (10 : Nat) = (headL f xs.length).length := hl10.symm
    conv => lhs; rw [e10]
    rw [List.drop_left, List.take_left]
  rw [hcut, mkS_append, mkS_append]
  unfold gS
  rw [frTo_split hf.1, catL_append, List.length_append]
  unfold frL
  simp only [List.append_assoc]
end
open Go.RowKit
/-- A part of a slice that begins a block, be it empty. -/
theorem RdI_sub0 {w : World} {b n cap : Nat} {xs : List Int} (h : RdI w (.slice (some ⟨b, 0, none⟩) n cap) xs) {lo hi : Nat} (hlo : lo ≤ hi) (hhi : hi ≤ n) : RdI w (.slice (some ⟨b, lo, none⟩) (hi - lo) (cap - lo)) ((xs.drop lo).take (hi - lo)) := by
  rcases Nat.lt_or_ge lo hi with h1 | h1
  · have := RdI.sub h h1 hhi
    rw [Nat.zero_add] at this
    exact this
  · have e : hi - lo = 0 := by omega
    obtain ⟨_, A, cap', h2, h3, h4, _⟩ := h
    injection h2 with _ _ h6
    rw [e, List.take_zero]
    exact ⟨by simp, some ⟨b, lo, none⟩, cap - lo, rfl, by simp, by omega, fun hn => absurd hn (by simp)⟩
set_option maxHeartbeats 1000000 in
set_option maxRecDepth 100000 in
theorem c_join2 (b : Nat) (va vb : Value) (xs ys : List Int) (w : World) (hb : b < w.heap.size) (h0 : w.cell? ⟨b, 0, none⟩ = some va) (h1 : w.cell? ⟨b, 1, none⟩ = some vb) (ra : RdI w va xs) (rb : RdI w vb ys)
    (hx : sigB xs = true) (hy : sigB ys = true) (hl : xs.length + ys.length ≤ 4000) :
    Calls Tryz.prog 13 #[.slice (some ⟨b, 0, none⟩) 2 2] w fun e w' => ∃ v, e = .returned (.tuple #[v, .int .i64 0]) ∧ OwI 2 w' w.heap.size v (xs ++ ys) ∧ Below w.heap.size w w' := by
  have HA := hide ra; have HB := hide rb; have HX := hide hx; have HY := hide hy
  obtain ⟨A1, cap1, rfl, hl1, hc1, _⟩ := ra.open_
  obtain ⟨A2, cap2, rfl, hl2, hc2, _⟩ := rb.open_
  clear ra rb hx hy
  have hxl : (xs.length : Int) ≤ 4000 := by omega
  have hyl : (xs.length : Int) + (ys.length : Int) ≤ 4000 := by omega
  have HW := hide ((Below.refl w.heap.size w).alloc (Nat.le_refl _) (.cells #[] 2))
  go_enter Tryz.func13, Tryz.ntmps13
  go_wp2
  refine wp_loop_rounds 3 ?_
  rw [rounds_succ]
  go_wp2_with (go_at_call 33; refine (c_l03Ok _ xs _ HA.out).mono ?_; rw [HX.out]; rintro e _ ⟨rfl, rfl⟩)
  rw [rounds_succ]
  go_wp2_with (go_at_call 33; refine (c_l03Ok _ ys _ HB.out).mono ?_; rw [HY.out]; rintro e _ ⟨rfl, rfl⟩)
  rw [rounds_succ]
  go_wp2
  refine wp_loop_rounds 3 ?_
  rw [rounds_succ]
  go_wp2_with (at_builtin; refine appm_i64 rfl _ _ rfl rfl (new_i64 w) rfl (Rd.alloc HA.out _) (by simp; omega) (by simp) ?_; intro v1 w1 ho1 hg1 hv1; have hb1 := below_own HW.out (new_i64 w) hg1 (Nat.le_refl _) (by simp); have HO1 := hide ho1; have HB1 := hide hb1; have hs1 := hb1.size; have d1 := (hb1.cell hb).trans h1; clear ho1 hb1 hg1 hv1)
  rw [rounds_succ]
  go_wp2_with (at_builtin; refine appm_i64 rfl _ _ rfl rfl HO1.out rfl (HB.out.below HB1.out) (by simp; omega) hs1 ?_; intro v2 w2 ho2 hg2 hv2; have hb2 := below_own HB1.out HO1.out hg2 (Nat.le_refl _) hs1; have HO2 := hide ho2; have HB2 := hide hb2; clear ho2 hb2 hg2 hv2)
  rw [rounds_succ]
  go_wp2
  go_ret2
  exact ⟨_, rfl, by simpa using HO2.out, HB2.out⟩
end Go.Proofs.YtpmflkoepnanoaaGreat
