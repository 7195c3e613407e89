/- Plain functions on numbers and lists: what the small functions compute. No program is named here. -/
import Derived.WalkKit
namespace Go.Proofs.YtfifcnojkjjnkaaGreat
def inB (n lo hi : Int) : Bool := decide (lo ≤ n ∧ n ≤ hi)
theorem inB_true {n lo hi : Int} : inB n lo hi = true ↔ lo ≤ n ∧ n ≤ hi := by simp [inB]
theorem inB_false {n lo hi : Int} : inB n lo hi = false ↔ ¬ (lo ≤ n ∧ n ≤ hi) := by simp [inB]
/-- A sample. -/
def Smp (x : Int) : Prop := -2147483648 ≤ x ∧ x ≤ 2147483647
instance (x : Int) : Decidable (Smp x) := by unfold Smp; infer_instance
def smpB (xs : List Int) : Bool := decide (∀ x ∈ xs, Smp x)
def sigB (xs : List Int) : Bool := decide (xs.length ≤ 4000) && smpB xs
theorem smpB_true {xs : List Int} : smpB xs = true ↔ ∀ x ∈ xs, Smp x := by simp [smpB]
theorem smpB_take_succ {xs : List Int} {k : Nat} {x : Int} (hk : xs[k]? = some x) (h : smpB (xs.take k) = true) (hx : Smp x) : smpB (xs.take (k + 1)) = true := by
  rw [smpB_true] at *
  intro y hy
  rw [List.take_add_one, hk] at hy
  simp at hy
  rcases hy with hy | rfl
  · exact h y hy
  · exact hx
theorem smpB_no {xs : List Int} {k : Nat} {x : Int} (hk : xs[k]? = some x) (hx : ¬ Smp x) : smpB xs = false := by
  rw [Bool.eq_false_iff]
  intro h
  exact hx (smpB_true.1 h x (List.mem_of_getElem? hk))
theorem sigB_true {xs : List Int} : sigB xs = true ↔ xs.length ≤ 4000 ∧ ∀ x ∈ xs, Smp x := by simp [sigB, smpB_true]

/-- The sample that differs from n by a multiple of 2^32. -/
def wrp (n : Int) : Int := (n + 2147483648) % 4294967296 - 2147483648
theorem wrp_smp (n : Int) : Smp (wrp n) := by unfold Smp wrp; omega
theorem wrp_of_smp {n : Int} (h : Smp n) : wrp n = n := by unfold Smp at h; unfold wrp; omega
/-- The difference at one place. -/
def lessD (xs : List Int) (i : Nat) : Int := wrp (xs.getD i 0 - if i = 0 then 0 else xs.getD (i - 1) 0)
def lessL (xs : List Int) : List Int := (List.range xs.length).map (lessD xs)
theorem length_lessL (xs : List Int) : (lessL xs).length = xs.length := by simp [lessL]
theorem lessL_at {xs : List Int} {k : Nat} (h : k < xs.length) : (lessL xs)[k]? = some (lessD xs k) := by simp [lessL, h]
theorem take_snoc_of {α : Type} {xs : List α} {k : Nat} {x : α} (h : xs[k]? = some x) : xs.take (k + 1) = xs.take k ++ [x] := by rw [List.take_add_one, h]; rfl
theorem smp_lessL {xs : List Int} : ∀ x ∈ lessL xs, Smp x := by
  intro x hx
  simp only [lessL, List.mem_map] at hx
  obtain ⟨i, _, rfl⟩ := hx
  exact wrp_smp _
theorem set_mix {α : Type} {L X : List α} {k : Nat} {x : α} (hl : L.length = X.length) (h : L[k]? = some x) : (L.take k ++ X.drop k).set k x = L.take (k + 1) ++ X.drop (k + 1) := by
  have hk := (List.getElem?_eq_some_iff.1 h).1
  rw [take_snoc_of h, List.set_append_right _ _ (by simp; omega)]
  have e : k - (L.take k).length = 0 := by simp; omega
  rw [e, List.drop_eq_getElem_cons (l := X) (i := k) (by omega), List.set_cons_zero]
  simp
theorem getElem?_mix {α : Type} {L X : List α} {k : Nat} (hl : L.length = X.length) (hk : k < X.length) : (L.take k ++ X.drop k)[k]? = X[k]? := by
  rw [List.getElem?_append_right (by simp; omega)]
  simp; congr 1; omega
def predictF : Nat → List Int → List Int
  | 0, xs => xs
  | m + 1, xs => predictF m (lessL xs)
theorem length_predictF (m : Nat) : ∀ xs, (predictF m xs).length = xs.length := by
  induction m with
  | zero => intro xs; rfl
  | succ m ih => intro xs; rw [predictF, ih, length_lessL]
theorem smp_predictF (m : Nat) : ∀ xs, (∀ x ∈ xs, Smp x) → ∀ x ∈ predictF m xs, Smp x := by
  induction m with
  | zero => intro xs h; exact h
  | succ m ih => intro xs _; exact ih _ smp_lessL

/-- The numbers with which a slice is marked. -/
def marks (k n : Nat) : List Int := (List.range n).map fun (i : Nat) => ((k + i : Nat) : Int)
theorem length_marks (k n : Nat) : (marks k n).length = n := by simp [marks]
theorem marks_at {k n i : Nat} (h : i < n) : (marks k n)[i]? = some ((k + i : Nat) : Int) := by simp [marks, h]
theorem eq_of_takes {α : Type} {xs ys : List α} {k : Nat} (hk : k = xs.length) (hl : xs.length = ys.length) (h : xs.take k = ys.take k) : xs = ys := by
  subst hk
  rw [List.take_length, hl, List.take_length] at h
  exact h
theorem takes_succ {α : Type} {xs ys : List α} {k : Nat} {x : α} (h : xs.take k = ys.take k) (hx : xs[k]? = some x) (hy : ys[k]? = some x) : xs.take (k + 1) = ys.take (k + 1) := by
  rw [take_snoc_of hx, take_snoc_of hy, h]
theorem ne_at {α : Type} {xs ys : List α} {k : Nat} {x y : α} (hx : xs[k]? = some x) (hy : ys[k]? = some y) (h : x ≠ y) : xs ≠ ys := by
  rintro rfl
  rw [hx] at hy
  exact h (by injection hy)

theorem bits_and_low (n : Int) (m : Nat) (hm : m ≤ 62) : bits .and .i64 n ((2 ^ m - 1 : Nat) : Int) = n % ((2 ^ m : Nat) : Int) := by
  have hp : 2 ^ m ≤ 2 ^ 62 := Nat.pow_le_pow_right (by omega) hm
  have hpos : 0 < 2 ^ m := Nat.pow_pos (by omega)
  have e2 : (BitVec.ofInt 64 ((2 ^ m - 1 : Nat) : Int)).toNat = 2 ^ m - 1 := by
    rw [BitVec.ofInt_natCast, BitVec.toNat_ofNat]; exact Nat.mod_eq_of_lt (by omega)
  have e1 : ((BitVec.ofInt 64 n).toNat : Int) = n % 18446744073709551616 := by
    rw [BitVec.toNat_ofInt]; omega
  show IntKind.i64.wrap ((BitVec.ofInt 64 n &&& BitVec.ofInt 64 ((2 ^ m - 1 : Nat) : Int)).toNat : Int) = _
  rw [BitVec.toNat_and, e2, Nat.and_two_pow_sub_one_eq_mod]
  have hlt : (BitVec.ofInt 64 n).toNat % 2 ^ m < 2 ^ m := Nat.mod_lt _ hpos
  have e3 : (((BitVec.ofInt 64 n).toNat % 2 ^ m : Nat) : Int) = n % ((2 ^ m : Nat) : Int) := by
    rw [Int.natCast_emod, e1]
    have hd : ((2 ^ m : Nat) : Int) ∣ 18446744073709551616 := by
      have : (2 ^ m : Nat) ∣ 2 ^ 64 := Nat.pow_dvd_pow 2 (by omega)
      exact Int.natCast_dvd_natCast.2 this
    exact Int.emod_emod_of_dvd n hd
  rw [IntWalk.i64_in _ (by omega), e3]
theorem and_32 (n : Int) : bits .and .i64 n 4294967295 = n % 4294967296 := bits_and_low n 32 (by omega)
theorem and_16 (n : Int) : bits .and .i64 n 65535 = n % 65536 := bits_and_low n 16 (by omega)
theorem and_1 (n : Int) : bits .and .i64 n 1 = n % 2 := bits_and_low n 1 (by omega)
theorem wrp_mod {a b : Int} (h : a % 4294967296 = b % 4294967296) : wrp a = wrp b := by unfold wrp; omega
theorem wrp_eq (n : Int) : RowKit.wrap32 n = wrp n := by unfold RowKit.wrap32 wrp; rfl
theorem wrp_small (n : Int) (h : n % 4294967296 ≤ 2147483647) : n % 4294967296 = wrp n := by unfold wrp; omega
theorem wrp_big (n : Int) (h : 2147483647 < n % 4294967296) : n % 4294967296 - 4294967296 = wrp n := by unfold wrp; omega
theorem wrp_sub (a b : Int) : wrp (wrp a - wrp b) = wrp (a - b) := by unfold wrp; omega
theorem wrp_add (a b : Int) : wrp (wrp a + wrp b) = wrp (a + b) := by unfold wrp; omega
theorem wrp_wrp (a : Int) : wrp (wrp a) = wrp a := wrp_of_smp (wrp_smp a)

theorem less_start {xs : List Int} (h : 0 < xs.length) (hs : ∀ x ∈ xs, Smp x) : (lessL xs).take 1 ++ xs.drop 1 = xs := by
  cases xs with
  | nil => simp at h
  | cons x t =>
    have e : (lessL (x :: t)).take 1 = [x] := by
      have h0 : (lessL (x :: t))[0]? = some (lessD (x :: t) 0) := lessL_at (by simp)
      rw [take_snoc_of h0]
      have := wrp_of_smp (hs x (by simp))
      simp [lessD, this]
    rw [e]; rfl

theorem bits_xor_nat (a b : Nat) (ha : a < 9223372036854775808) (hb : b < 9223372036854775808) : bits .xor .i64 (a : Int) (b : Int) = ((a ^^^ b : Nat) : Int) := by
  have hx : a ^^^ b < 2 ^ 63 := Nat.xor_lt_two_pow (by omega) (by omega)
  have h1 : (BitVec.ofInt 64 (a : Int)).toNat = a := by rw [BitVec.ofInt_natCast, BitVec.toNat_ofNat]; exact Nat.mod_eq_of_lt (by omega)
  have h2 : (BitVec.ofInt 64 (b : Int)).toNat = b := by rw [BitVec.ofInt_natCast, BitVec.toNat_ofNat]; exact Nat.mod_eq_of_lt (by omega)
  show IntKind.i64.wrap ((BitVec.ofInt 64 (a : Int) ^^^ BitVec.ofInt 64 (b : Int)).toNat : Int) = _
  rw [BitVec.toNat_xor, h1, h2]
  exact IntWalk.i64_in _ (by omega)
/-- One step of the check value, for one bit. -/
def crcBit (x : Nat) : Nat := if 32768 ≤ x then (2 * x % 65536) ^^^ 4129 else 2 * x
def crcBits : Nat → Nat → Nat
  | 0, x => x
  | k + 1, x => crcBits k (crcBit x)
def crcByte (x b : Nat) : Nat := crcBits 8 (x ^^^ (b * 256))
def crcF : List UInt8 → Nat → Nat
  | [], x => x
  | b :: t, x => crcF t (crcByte x b.toNat)
theorem crcBit_lt {x : Nat} (h : x < 65536) : crcBit x < 65536 := by
  unfold crcBit
  split
  · exact Nat.xor_lt_two_pow (n := 16) (by omega) (by omega)
  · omega
theorem crcBits_lt (k : Nat) : ∀ {x : Nat}, x < 65536 → crcBits k x < 65536 := by
  induction k with
  | zero => intro x h; exact h
  | succ k ih => intro x h; exact ih (crcBit_lt h)
theorem crcIn_lt {x b : Nat} (h : x < 65536) (hb : b < 256) : x ^^^ (b * 256) < 65536 := Nat.xor_lt_two_pow (n := 16) (by omega) (by omega)
theorem crcByte_lt {x b : Nat} (h : x < 65536) (hb : b < 256) : crcByte x b < 65536 := crcBits_lt 8 (crcIn_lt h hb)
theorem crcF_lt (l : List UInt8) : ∀ {x : Nat}, x < 65536 → crcF l x < 65536 := by
  induction l with
  | nil => intro x h; exact h
  | cons b t ih => intro x h; exact ih (crcByte_lt h (UInt8.toNat_lt b))
theorem crc_big {x : Nat} (h : 32768 ≤ x) (hx : x < 65536) : (x * 2 ^^^ 4129) % 65536 = crcBit x := by
  unfold crcBit
  rw [if_pos h]
  have := Nat.xor_mod_two_pow (a := x * 2) (b := 4129) (n := 16)
  simp only [Nat.reducePow] at this
  rw [this, Nat.mul_comm]
theorem crc_small {x : Nat} (h : ¬ 32768 ≤ x) : 2 * x = crcBit x := by unfold crcBit; rw [if_neg h]
theorem crcF_drop {l : List UInt8} {i : Nat} {b : UInt8} {x : Nat} (h : l[i]? = some b) : crcF (l.drop i) x = crcF (l.drop (i + 1)) (crcByte x b.toNat) := by
  have hi := (List.getElem?_eq_some_iff.1 h).1
  rw [List.drop_eq_getElem_cons hi]
  have : l[i] = b := (List.getElem?_eq_some_iff.1 h).2
  rw [this]; rfl
theorem toList_loop (s : ByteArray) : ∀ (n i : Nat) (r : List UInt8), n = s.size - i → ByteArray.toList.loop s i r = r.reverse ++ s.data.toList.drop i := by
  intro n
  induction n with
  | zero =>
    intro i r h
    unfold ByteArray.toList.loop
    rw [if_neg (by omega), List.drop_eq_nil_of_le (by rw [Array.length_toList]; show s.size ≤ i; omega), List.append_nil]
  | succ n ih =>
    intro i r h
    unfold ByteArray.toList.loop
    have hi : i < s.data.toList.length := by rw [Array.length_toList]; show i < s.size; omega
    rw [if_pos (by omega), ih (i + 1) _ (by omega), List.drop_eq_getElem_cons hi]
    have : s.get! i = s.data.toList[i] := by
      have hd : i < s.data.size := by simpa using hi
      rw [Array.getElem_toList]; exact getElem!_pos s.data i hd
    rw [this]; simp
theorem toList_eq (s : ByteArray) : s.toList = s.data.toList := by
  have := toList_loop s s.size 0 [] (by simp)
  simpa [ByteArray.toList] using this
theorem str_eq {a b : ByteArray} : (a.toList == b.toList) = decide (a = b) := by
  rw [toList_eq, toList_eq, Bool.eq_iff_iff]
  simp only [beq_iff_eq, decide_eq_true_eq]
  constructor
  · intro h; apply ByteArray.ext; exact Array.toList_inj.1 h
  · rintro rfl; rfl
theorem extract_extract (s : ByteArray) (m n : Nat) (h : n ≤ m) (hm : m ≤ s.size) : (s.extract 0 m).extract 0 n = s.extract 0 n := by
  apply ByteArray.ext
  rw [ByteArray.data_extract, ByteArray.data_extract, ByteArray.data_extract, Array.extract_extract]
  have : min (0 + n) m = n := by omega
  rw [this]
theorem size_ext0 (s : ByteArray) (n : Nat) (h : n ≤ s.size) : (s.extract 0 n).size = n := by
  rw [ByteArray.size_extract]; omega

/-- Two bytes of a number. -/
def wordL (n : Nat) : List UInt8 := [UInt8.ofNat (n / 256), UInt8.ofNat (n % 256)]

/-- The number for which a sample stands. -/
def foldF (x : Int) : Int := if x < 0 then -2 * x - 1 else 2 * x
theorem foldF_bd {x : Int} (h : Smp x) : 0 ≤ foldF x ∧ foldF x ≤ 4294967295 := by
  unfold Smp at h; unfold foldF; split <;> omega
/-- The number of ones of a code. -/
def quoF (x : Int) (k : Nat) : Int := foldF x / 2 ^ k
theorem quoF_bd {x : Int} (k : Nat) (h : Smp x) : 0 ≤ quoF x k ∧ quoF x k ≤ 4294967295 := by
  have := foldF_bd h
  have hp : (0 : Int) < 2 ^ k := Int.pow_pos (by omega)
  unfold quoF
  exact ⟨Int.ediv_nonneg this.1 (by omega), Int.le_trans (Int.ediv_le_self _ this.1) this.2⟩
def bitsF (x : Int) (k : Nat) : Int := if quoF x k < 20 then quoF x k + 1 + k else 52
theorem bitsF_bd {x : Int} {k : Nat} (h : Smp x) (hk : k ≤ 30) : 1 ≤ bitsF x k ∧ bitsF x k ≤ 52 := by
  have := quoF_bd k h
  unfold bitsF; split <;> omega
def lenF : List Int → Nat → Int
  | [], _ => 0
  | x :: t, k => bitsF x k + lenF t k
theorem lenF_append (a b : List Int) (k : Nat) : lenF (a ++ b) k = lenF a k + lenF b k := by
  induction a with
  | nil => simp [lenF]
  | cons x t ih => simp only [List.cons_append, lenF, ih]; omega
theorem lenF_bd {xs : List Int} {k : Nat} (h : ∀ x ∈ xs, Smp x) (hk : k ≤ 30) : 0 ≤ lenF xs k ∧ lenF xs k ≤ 52 * (xs.length : Int) := by
  induction xs with
  | nil => simp [lenF]
  | cons x t ih =>
    have h1 := bitsF_bd (h x (by simp)) hk
    have h2 := ih fun y hy => h y (by simp [hy])
    simp only [lenF, List.length_cons]
    omega
theorem lenF_snoc {xs : List Int} {i : Nat} {x : Int} (k : Nat) (h : xs[i]? = some x) : lenF (xs.take (i + 1)) k = lenF (xs.take i) k + bitsF x k := by
  rw [take_snoc_of h, lenF_append]; simp [lenF]
def bestStep (xs : List Int) (b : Nat × Int) (k : Nat) : Nat × Int := if lenF xs k < b.2 then (k, lenF xs k) else b
/-- The best parameter among the first, and its length. -/
def bestTo (xs : List Int) : Nat → Nat × Int
  | 0 => (0, lenF xs 0)
  | k + 1 => bestStep xs (bestTo xs k) (k + 1)
theorem bestTo_bd {xs : List Int} (h : ∀ x ∈ xs, Smp x) (k : Nat) (hk : k ≤ 30) : (bestTo xs k).1 ≤ k ∧ 0 ≤ (bestTo xs k).2 ∧ (bestTo xs k).2 ≤ 52 * (xs.length : Int) := by
  induction k with
  | zero => have := lenF_bd (k := 0) h (by omega); simp only [bestTo]; omega
  | succ k ih =>
    have h1 := ih (by omega)
    have h2 := lenF_bd (k := k + 1) h hk
    simp only [bestTo, bestStep]
    split
    · exact ⟨Nat.le_refl _, h2.1, h2.2⟩
    · omega
def bestR (xs : List Int) : Nat × Int := bestTo xs 30
def ordStep (xs : List Int) (b : Nat × Nat × Int) (m : Nat) : Nat × Nat × Int := if (bestR (predictF m xs)).2 < b.2.2 then (m, bestR (predictF m xs)) else b
/-- The best order among the first, its parameter and its length. -/
def ordTo (xs : List Int) : Nat → Nat × Nat × Int
  | 0 => (0, bestR xs)
  | m + 1 => ordStep xs (ordTo xs m) (m + 1)
theorem bestR_bd {xs : List Int} (h : ∀ x ∈ xs, Smp x) : (bestR xs).1 ≤ 30 ∧ 0 ≤ (bestR xs).2 ∧ (bestR xs).2 ≤ 52 * (xs.length : Int) := by
  unfold bestR; exact bestTo_bd h 30 (by omega)
theorem ordTo_bd {xs : List Int} (h : ∀ x ∈ xs, Smp x) (m : Nat) : (ordTo xs m).1 ≤ m ∧ (ordTo xs m).2.1 ≤ 30 ∧ 0 ≤ (ordTo xs m).2.2 ∧ (ordTo xs m).2.2 ≤ 52 * (xs.length : Int) := by
  induction m with
  | zero =>
    have h1 := bestR_bd h
    simp only [ordTo]
    exact ⟨Nat.le_refl _, h1⟩
  | succ m ih =>
    have h2 := bestR_bd (smp_predictF (m + 1) xs h)
    rw [length_predictF] at h2
    simp only [ordTo, ordStep]
    split
    · exact ⟨Nat.le_refl _, h2⟩
    · exact ⟨by omega, ih.2⟩
def ordR (xs : List Int) : Nat × Nat := ((ordTo xs 3).1, (ordTo xs 3).2.1)

/-- A bit as a byte. -/
def bitC (n : Int) (i : Nat) : UInt8 := UInt8.ofNat (48 + (n / 2 ^ i % 2).toNat)
theorem bitC_nat (n : Int) (i : Nat) : ((bitC n i).toNat : Int) = 48 + n / 2 ^ i % 2 := by
  unfold bitC
  generalize n / 2 ^ i = d
  simp; omega
/-- The lowest bits of a number, the highest one first. -/
def digL (n : Int) : Nat → List UInt8
  | 0 => []
  | b + 1 => bitC n b :: digL n b
theorem length_digL (n : Int) (b : Nat) : (digL n b).length = b := by
  induction b with
  | zero => rfl
  | succ b ih => simp [digL, ih]
def encC (x : Int) (k : Nat) : List UInt8 := if quoF x k < 20 then List.replicate (quoF x k).toNat 49 ++ (48 :: digL (foldF x) k) else List.replicate 20 49 ++ digL (foldF x) 32
def encL : List Int → Nat → List UInt8
  | [], _ => []
  | x :: t, k => encC x k ++ encL t k
theorem length_encC {x : Int} {k : Nat} (h : Smp x) : ((encC x k).length : Int) = bitsF x k := by
  have := quoF_bd k h
  unfold encC bitsF
  split
  · simp [length_digL]; omega
  · simp [length_digL]
theorem encL_append (a b : List Int) (k : Nat) : encL (a ++ b) k = encL a k ++ encL b k := by
  induction a with
  | nil => simp [encL]
  | cons x t ih => simp only [List.cons_append, encL, ih, List.append_assoc]
theorem encL_snoc {xs : List Int} {i : Nat} {x : Int} (k : Nat) (h : xs[i]? = some x) : encL (xs.take (i + 1)) k = encL (xs.take i) k ++ encC x k := by
  rw [take_snoc_of h, encL_append]; simp [encL]
theorem length_encL {xs : List Int} {k : Nat} (h : ∀ x ∈ xs, Smp x) : ((encL xs k).length : Int) = lenF xs k := by
  induction xs with
  | nil => rfl
  | cons x t ih =>
    have h1 := length_encC (k := k) (h x (by simp))
    have h2 := ih fun y hy => h y (by simp [hy])
    simp only [encL, lenF, List.length_append]
    omega
theorem length_encTo {xs : List Int} {k : Nat} (h : ∀ x ∈ xs, Smp x) (hk : k ≤ 30) (j : Nat) : (encL (xs.take j) k).length ≤ 52 * xs.length := by
  have h' : ∀ x ∈ xs.take j, Smp x := fun y hy => h y (List.mem_of_mem_take hy)
  have h1 := length_encL (k := k) h'
  have h2 := lenF_bd h' hk
  rw [List.length_take] at h2
  omega

/-- A byte that stands for a bit, as a number. -/
def bitN (bits : List UInt8) (i : Nat) : Nat := if bits.getD i 48 = 49 then 1 else 0
theorem bitN_le (bits : List UInt8) (i : Nat) : bitN bits i ≤ 1 := by unfold bitN; split <;> omega
theorem bitN_end {bits : List UInt8} {i : Nat} (h : bits.length ≤ i) : bitN bits i = 0 := by
  unfold bitN
  rw [List.getD_eq_getElem?_getD, List.getElem?_eq_none h]; rfl
/-- The number of the first c bits of byte m. -/
def pkB (bits : List UInt8) (m : Nat) : Nat → Nat
  | 0 => 0
  | c + 1 => 2 * pkB bits m c + bitN bits (8 * m + c)
theorem pkB_lt (bits : List UInt8) (m c : Nat) : pkB bits m c < 2 ^ c := by
  induction c with
  | zero => simp [pkB]
  | succ c ih => have := bitN_le bits (8 * m + c); simp only [pkB, Nat.pow_succ]; omega
def packL (bits : List UInt8) : List UInt8 := (List.range ((bits.length + 7) / 8)).map fun m => UInt8.ofNat (pkB bits m 8)
/-- Byte m when the first i bits are laid. -/
def outAt (bits : List UInt8) (i m : Nat) : Nat := pkB bits m (min 8 (i - 8 * m)) * 2 ^ (8 - min 8 (i - 8 * m))
def outL (bits : List UInt8) (i : Nat) : List UInt8 := (List.range ((bits.length + 7) / 8)).map fun m => UInt8.ofNat (outAt bits i m)
theorem length_outL (bits : List UInt8) (i : Nat) : (outL bits i).length = (bits.length + 7) / 8 := by simp [outL]
theorem pkB_full {bits : List UInt8} {m : Nat} : ∀ (d c : Nat), c + d = 8 → bits.length ≤ 8 * m + c → pkB bits m c * 2 ^ d = pkB bits m 8 := by
  intro d
  induction d with
  | zero => intro c hc _; have : c = 8 := by omega
            subst this; simp
  | succ d ih =>
    intro c hc hl
    rw [← ih (c + 1) (by omega) (by omega)]
    simp only [pkB]
    rw [bitN_end hl, Nat.pow_succ]
    simp only [Nat.add_zero]
    rw [Nat.mul_comm (2 ^ d) 2, ← Nat.mul_assoc, Nat.mul_comm (pkB bits m c) 2]
theorem outL_start (bits : List UInt8) : outL bits 0 = List.replicate ((bits.length + 7) / 8) 0 := by
  unfold outL
  apply List.ext_getElem
  · simp
  · intro i h1 h2
    simp [outAt, pkB]
theorem outL_end (bits : List UInt8) : outL bits bits.length = packL bits := by
  unfold outL packL
  apply List.map_congr_left
  intro m hm
  congr 1
  unfold outAt
  by_cases h : 8 ≤ bits.length - 8 * m
  · rw [Nat.min_eq_left h]; simp
  · rw [Nat.min_eq_right (by omega)]
    exact pkB_full _ _ (by omega) (by omega)
theorem outAt_same {bits : List UInt8} {i m : Nat} (h : m ≠ i / 8) : outAt bits (i + 1) m = outAt bits i m := by
  unfold outAt
  by_cases h1 : m < i / 8
  · rw [Nat.min_eq_left (by omega), Nat.min_eq_left (by omega)]
  · have : i + 1 - 8 * m = 0 := by omega
    have h2 : i - 8 * m = 0 := by omega
    rw [this, h2]
theorem outAt_here {bits : List UInt8} {i : Nat} : outAt bits i (i / 8) = pkB bits (i / 8) (i % 8) * 2 ^ (8 - i % 8) ∧ outAt bits (i + 1) (i / 8) = (2 * pkB bits (i / 8) (i % 8) + bitN bits i) * 2 ^ (7 - i % 8) := by
  have h1 : i - 8 * (i / 8) = i % 8 := by omega
  have h2 : i + 1 - 8 * (i / 8) = i % 8 + 1 := by omega
  have h3 : min 8 (i % 8) = i % 8 := by omega
  have h4 : min 8 (i % 8 + 1) = i % 8 + 1 := by omega
  have h5 : 8 * (i / 8) + i % 8 = i := by omega
  have h6 : 8 - (i % 8 + 1) = 7 - i % 8 := by omega
  unfold outAt
  rw [h1, h2, h3, h4, h6]
  refine ⟨rfl, ?_⟩
  simp only [pkB, h5]
theorem outL_step0 {bits : List UInt8} {i : Nat} (h : bitN bits i = 0) : outL bits (i + 1) = outL bits i := by
  unfold outL
  apply List.map_congr_left
  intro m _
  congr 1
  by_cases hm : m = i / 8
  · subst hm
    rw [outAt_here.1, outAt_here.2, h, Nat.add_zero, show 8 - i % 8 = (7 - i % 8) + 1 by omega, Nat.pow_succ, Nat.mul_comm (2 ^ (7 - i % 8)) 2, ← Nat.mul_assoc, Nat.mul_comm (pkB bits (i / 8) (i % 8)) 2]
  · exact outAt_same hm
theorem outAt_lt (bits : List UInt8) (i m : Nat) : outAt bits i m < 256 := by
  unfold outAt
  have := pkB_lt bits m (min 8 (i - 8 * m))
  have e : 2 ^ min 8 (i - 8 * m) * 2 ^ (8 - min 8 (i - 8 * m)) = 256 := by
    rw [← Nat.pow_add, show min 8 (i - 8 * m) + (8 - min 8 (i - 8 * m)) = 8 by omega]
  rw [← e]
  exact Nat.mul_lt_mul_of_pos_right this (Nat.pow_pos (by omega))
theorem outAt_or {bits : List UInt8} {i : Nat} (h : bitN bits i = 1) : outAt bits i (i / 8) ||| 2 ^ (7 - i % 8) = outAt bits (i + 1) (i / 8) := by
  rw [outAt_here.1, outAt_here.2, h]
  have e : 8 - i % 8 = (7 - i % 8) + 1 := by omega
  generalize 7 - i % 8 = d at *
  generalize pkB bits (i / 8) (i % 8) = p
  rw [e]
  have := Nat.two_pow_add_eq_or_of_lt (i := d + 1) (b := 2 ^ d) (by rw [Nat.pow_succ]; have : 0 < 2 ^ d := Nat.pow_pos (by omega); omega) p
  rw [Nat.mul_comm p, ← this, Nat.pow_succ, Nat.add_mul, Nat.one_mul, Nat.mul_assoc, Nat.mul_comm 2 p, Nat.mul_assoc, Nat.mul_comm (2 ^ d), Nat.mul_comm p]
  congr 1
  rw [Nat.mul_comm 2 p, Nat.mul_assoc]
theorem outL_at {bits : List UInt8} {i m : Nat} (h : m < (bits.length + 7) / 8) : (outL bits i)[m]? = some (UInt8.ofNat (outAt bits i m)) := by simp [outL, h]
theorem outL_step1 {bits : List UInt8} {i : Nat} (h : i < bits.length) : (outL bits i).set (i / 8) (UInt8.ofNat (outAt bits (i + 1) (i / 8))) = outL bits (i + 1) := by
  apply List.ext_getElem?
  intro m
  by_cases hm : m = i / 8
  · subst hm
    rw [List.getElem?_set_self (by rw [length_outL]; omega), outL_at (by omega)]
  · rw [List.getElem?_set_ne (by omega)]
    by_cases hl : m < (bits.length + 7) / 8
    · rw [outL_at hl, outL_at hl, outAt_same hm]
    · rw [List.getElem?_eq_none (by rw [length_outL]; omega), List.getElem?_eq_none (by rw [length_outL]; omega)]
theorem pkB_pad (bits : List UInt8) (j m c : Nat) : pkB (bits ++ List.replicate j 48) m c = pkB bits m c := by
  have hb : ∀ i, bitN (bits ++ List.replicate j 48) i = bitN bits i := by
    intro i
    unfold bitN
    by_cases h : i < bits.length
    · rw [List.getD_eq_getElem?_getD, List.getD_eq_getElem?_getD, List.getElem?_append_left h]
    · rw [List.getD_eq_getElem?_getD, List.getD_eq_getElem?_getD, List.getElem?_append_right (by omega), List.getElem?_eq_none (l := bits) (by omega)]
      by_cases h2 : i - bits.length < j
      · simp [h2]
      · rw [List.getElem?_eq_none (by simp; omega)]
  induction c with
  | zero => rfl
  | succ c ih => simp only [pkB, ih, hb]
/-- Only bits. -/
def Bits (l : List UInt8) : Prop := ∀ b ∈ l, b = 48 ∨ b = 49
theorem bits_digL (n : Int) (b : Nat) : Bits (digL n b) := by
  induction b with
  | zero => intro x hx; simp [digL] at hx
  | succ b ih =>
    intro x hx
    simp only [digL, List.mem_cons] at hx
    rcases hx with rfl | hx
    · unfold bitC
      have : (n / 2 ^ b % 2).toNat = 0 ∨ (n / 2 ^ b % 2).toNat = 1 := by omega
      rcases this with h | h <;> rw [h]
      · exact .inl rfl
      · exact .inr rfl
    · exact ih x hx
theorem bits_encC (x : Int) (k : Nat) : Bits (encC x k) := by
  have h1 := bits_digL (foldF x) k
  have h2 := bits_digL (foldF x) 32
  unfold encC
  intro b hb
  split at hb
  · simp only [List.mem_append, List.mem_replicate, List.mem_cons] at hb
    rcases hb with ⟨_, hb⟩ | hb | hb
    · exact .inr hb
    · exact .inl hb
    · exact h1 b hb
  · simp only [List.mem_append, List.mem_replicate] at hb
    rcases hb with ⟨_, hb⟩ | hb
    · exact .inr hb
    · exact h2 b hb
theorem bits_encL (xs : List Int) (k : Nat) : Bits (encL xs k) := by
  induction xs with
  | nil => intro b hb; simp [encL] at hb
  | cons x t ih =>
    intro b hb
    simp only [encL, List.mem_append] at hb
    rcases hb with hb | hb
    · exact bits_encC x k b hb
    · exact ih b hb
theorem bits_get {l : List UInt8} (h : Bits l) {i : Nat} {b : UInt8} (hi : l[i]? = some b) : (b.toNat : Int) - 48 = (bitN l i : Int) ∧ 48 ≤ b.toNat ∧ b.toNat ≤ 49 := by
  unfold bitN
  rw [List.getD_eq_getElem?_getD, hi]
  rcases h b (List.mem_of_getElem? hi) with rfl | rfl <;> decide

theorem packL_pad (bits : List UInt8) (j : Nat) (h : (bits.length + j) % 8 = 0) (hj : j < 8) : (List.range ((bits.length + j) / 8)).map (fun m => UInt8.ofNat (pkB (bits ++ List.replicate j 48) m 8)) = packL bits := by
  have e : (bits.length + j) / 8 = (bits.length + 7) / 8 := by omega
  rw [e]
  unfold packL
  apply List.map_congr_left
  intro m _
  rw [pkB_pad]
theorem range_snoc {α : Type} (f : Nat → α) (n : Nat) : (List.range (n + 1)).map f = (List.range n).map f ++ [f n] := by rw [List.range_succ, List.map_append]; rfl
theorem bits_pad {l : List UInt8} (h : Bits l) (j : Nat) : Bits (l ++ List.replicate j 48) := by
  intro b hb
  simp only [List.mem_append, List.mem_replicate] at hb
  rcases hb with hb | ⟨_, hb⟩
  · exact h b hb
  · exact .inl hb
end Go.Proofs.YtfifcnojkjjnkaaGreat
