/- Contracts: the lines of a text by the reference; marks in slices of strings. Contracts: numbers and lines as texts, by the program. Words: a slice of elements opened; a struct behind a pointer. Contracts: what is valid, by the program: lists, clips, names, sends. Contracts: check values, two bytes, the head of a store. -/
import Derived.Test.YteiflbhcehajkaaGreatDoorQAiExactSessionText
import Derived.Test.YteiflbhcehajkaaGreatDoorQAhExactSessionText
import Derived.Test.YteiflbhcehajkaaGreatDoorQAbExactSessionText
import Derived.Test.YteiflbhcehajkaaGreatDoorQAaExactSessionText
import Derived.Deep.RegionHeld3
import Derived.Deep.RegionWith
set_option linter.unusedVariables false
set_option linter.unusedSimpArgs false
section
namespace Go.Proofs.YteiflbhcehajkaaGreatDoor
open Go.RowKit
theorem c_split10 (s : ByteArray) (w : World) (hs : s.size ≤ 1048576) : Calls Tryz.prog 114 #[.string s, .int .u8 10] w fun e w' => ∃ v, e = .returned v ∧ OwS 9 w' w.heap.size v (partsB 10 s) ∧ Below w.heap.size w w' := c_l01Split 10 s w hs
theorem parts_last (s : ByteArray) : (partsB 10 s)[s.data.toList.count 10]? = some (mkS (lastF s)) := by
  unfold partsB lastF
  rw [List.getElem?_map]
  have h := length_partsL 10 s.data.toList
  rw [List.getLast_eq_getElem, List.getElem?_eq_getElem (by omega)]
  simp only [h, Nat.add_sub_cancel, Option.map_some]
theorem empty_mkS (l : List UInt8) : (mkS l).toList.isEmpty = decide (l = []) := by
  rw [toList_eq, data_mkS]; cases l <;> rfl
set_option maxHeartbeats 1000000 in
set_option maxRecDepth 20000 in
theorem c_l32Lines (s : ByteArray) (w : World) (hs : s.size ≤ 1048576) : Calls Tryz.prog 63 #[.string s] w fun e w' => ∃ v, e = .returned (.tuple #[v, .bool (decide (lastF s = []))]) ∧ OwS 9 w' w.heap.size v (linesF s) ∧ Below w.heap.size w w' := by
  have hl := length_partsB 10 s
  have hlt := linesF_take s
  have hn := count_le s
  have hla := parts_last s
  have hem := empty_mkS (lastF s)
  generalize hN : s.data.toList.count 10 = N at *
  generalize hP : partsB 10 s = ps at *
  generalize hL : linesF s = ls at *
  generalize hX : mkS (lastF s) = x at *
  generalize hB : decide (lastF s = []) = B at *
  have HP := hide hP; have HL := hide hL; have HLT := hide hlt; have HPL := hide hl; have HLA := hide hla; clear hP hL hlt hN hX hB hla
  go_enter Tryz.func63, Tryz.ntmps63
  go_wp2_with fail
  refine (c_split10 s _ hs).mono ?_; rintro e w1 ⟨v, rfl, ho, hb⟩
  rw [HP.out] at ho
  obtain ⟨g, cap, rfl, hcap, hg, hgs⟩ := ho.form (by omega)
  have hcl := ho.cellN HLA.out (j := 0) (u := .string x) rfl
  rw [Nat.mul_one, Nat.add_zero] at hcl
  have hcp := (cap_of ho.rd rfl).2.2
  rw [hl] at ho hcap
  have hwr : IntKind.i64.wrap (N : Int) = (N : Int) := IntWalk.i64_in _ (by omega)
  have HO := hide ho; have HB := hide hb; clear ho hb
  have hx0 : ps.length = N + 1 := hl
  rw [hx0]
  clear hl hx0
  go_wp2
  go_quiet (fail)
  go_wp2
  go_ret2
  exact ⟨_, rfl, by rw [HLT.out]; exact HO.out.cut (by rw [HPL.out]; omega), below_drewN HB.out _⟩
end Go.Proofs.YteiflbhcehajkaaGreatDoor
end
section
namespace Go.Proofs.YteiflbhcehajkaaGreatDoor
open Go.RowKit
theorem c_join (v : Value) (ls : List ByteArray) (sep : ByteArray) (w : World) (hr : RdS w v ls) (hn : ls.length ≤ 140737488355328) (hl : (Lib.join (ls.map (·.data.toList)) sep.data.toList).length ≤ 140737488355328) : Calls Tryz.prog 129 #[v, .string sep] w fun e w' => e = .returned (.string (mkS (Lib.join (ls.map (·.data.toList)) sep.data.toList))) ∧ Below w.heap.size w w' := by
  obtain ⟨A, cap, rfl, h1, h2, hx⟩ := hr.openS
  cases ls with
  | nil => exact (Tryz.strings_Join_none A cap sep w).mono fun e w' h => by obtain ⟨rfl, rfl⟩ := h; exact ⟨rfl, Below.refl _ _⟩
  | cons x r =>
    obtain ⟨b, off, rfl, hb, _⟩ := hx 0 x rfl
    exact Tryz.strings_Join b off cap (x :: r) sep w (fun j y hj => by obtain ⟨b', off', e, _, hc⟩ := hx j y hj; injection e with e; injection e with e1 e2; subst e1 e2; exact hc) hb hn h1 hl
theorem dat_map (l : List (List UInt8)) : (l.map mkS).map (fun s : ByteArray => s.data.toList) = l := by
  rw [List.map_map]
  exact (List.map_congr_left (fun x _ => dat_mk x)).trans (List.map_id l)
theorem dec_map (l : List Int) : l.map decS = (l.map decL).map mkS := by rw [List.map_map]; rfl
theorem blanks_drop {l : List Int} (h : ∀ n ∈ l, I64 n) (hl : l.length ≤ 1048576) : ((blanks l).drop 1).length ≤ 23068672 := by
  rw [List.length_drop]
  have := blanks_len h
  omega
set_option maxHeartbeats 2000000 in
set_option maxRecDepth 20000 in
theorem c_numbersText (v : Value) (xs : List Int) (w : World) (hr : RdI w v xs) (hg : ∀ n ∈ xs, I64 n) (hl : xs.length ≤ 1048576) (ht : TB w) : Calls Tryz.prog 127 #[v] w fun e w' => e = .returned (.string (mkS ((blanks xs).drop 1))) ∧ Below w.heap.size w w' := by
  have hbd := blanks_drop hg hl
  have HTB := hide ht; have HG := hide hg
  obtain ⟨A, cap, rfl, hln, hm, hx⟩ := hr.open_
  have HX := hide hx; clear hx hr ht hg
  have HJ := hide (show Lib.join ((xs.map decS).map (fun s : ByteArray => s.data.toList)) [32] = (blanks xs).drop 1 by rw [dec_map, dat_map, join_sep, sep_dec])
  generalize hT : (blanks xs).drop 1 = tx at *
  clear hT
  go_enter Tryz.func127, Tryz.ntmps127
  go_wp2
  go_loopw [3, 9] (fun o i wr => ∃ k : Nat, k ≤ xs.length ∧ i = .int .i64 (k : Int) ∧ OwS 9 wr w.heap.size o ((xs.take k).map decS) ∧ Below w.heap.size w wr) (fun _ i _ => xs.length - (intOf i).toNat)
  case atStart => exact ⟨0, Nat.zero_le _, rfl, new_str w, (Below.refl _ _).alloc (Nat.le_refl _) _⟩
  case round =>
    obtain ⟨k, hk, rfl, ho, hb⟩ := hrel
    have HO := hide ho; have HB := hide hb; clear ho hb
    by_cases hlt : k < xs.length
    · have hgk := List.getElem?_eq_getElem hlt
      obtain ⟨b, off, rfl, hb1, hc⟩ := HX.out k xs[k] hgk
      have d0 := (HB.out.cell hb1).trans hc
      have hi := HG.out xs[k] (List.getElem_mem hlt)
      have hb2 : b < wr.heap.size := Nat.lt_of_lt_of_le hb1 HB.out.size
      generalize xs[k] = n at *
      have HGK := hide hgk; have HI := hide hi; clear hgk hi hc
      have hlk : ((xs.take k).map decS).length = k := by rw [List.length_map, List.length_take]; omega
      go_wp2_with fail
      refine (c_iDec n _ (HTB.out.below HB.out) HI.out.1 HI.out.2).mono ?_; rintro e w1 ⟨rfl, hb3⟩
      have HB1 := hide (bthen HB.out HB.out.size hb3); have HO1 := hide (HO.out.all hb3); clear hb3
      have hs1 := HB1.out.size
      go_wp2_with (at_builtin; refine app1_str rfl _ _ rfl rfl HO1.out rfl (by omega) hs1 ?_; intro v8 w8 ho8 hg8 hv8; have HO8 := hide ho8; have HB8 := hide (below_own HB1.out HO1.out.2 hg8 (Nat.le_refl _) hs1); clear ho8 hg8 hv8)
      go_roundw
      case rel => exact ⟨k + 1, by omega, by go_num, by rw [take_snoc_of HGK.out, List.map_append]; exact HO8.out, HB8.out⟩
      case measure => simp [intOf]; omega
    · obtain rfl : k = xs.length := by omega
      have HO2 := hide (show OwS 9 wr w.heap.size _ (xs.map decS) by have := HO.out; rwa [List.take_length] at this)
      go_wp2_with (go_at_call 129; refine (c_join _ (xs.map decS) _ _ HO2.out.rd (by rw [List.length_map]; omega) (by rw [show (⟨#[32]⟩ : ByteArray).data.toList = [32] from rfl, HJ.out]; omega)).mono ?_; rintro e w2 ⟨rfl, hb9⟩; have HB9 := hide (bthen HB.out HB.out.size hb9); clear hb9)
      go_ret
      exact ⟨ret_str (by rw [← HJ.out, List.map_map]), HB9.out⟩
set_option maxHeartbeats 2000000 in
set_option maxRecDepth 20000 in
theorem c_spaced (word : ByteArray) (v : Value) (xs : List Int) (w : World) (hr : RdI w v xs) (hg : ∀ n ∈ xs, I64 n) (hl : xs.length ≤ 1048576) (hz : word.size ≤ 100) (ht : TB w) : Calls Tryz.prog 78 #[.string word, v] w fun e w' => e = .returned (.string (mkS (wrdL word.data.toList xs))) ∧ Below w.heap.size w w' := by
  have HTB := hide ht; have HG := hide hg; have HR := hide hr
  obtain ⟨A, cap, rfl, hln, hm, hx⟩ := hr.open_
  clear hx hr ht hg
  by_cases h0 : xs = []
  · have HE := hide (show mkS (wrdL word.data.toList xs) = word by rw [h0]; unfold wrdL blanks; rw [List.flatMap_nil, List.append_nil, mkS_data])
    have hq : ((xs.length : Int) == 0) = true := by rw [h0]; rfl
    have hq2 : xs.length = 0 := by rw [h0]; rfl
    clear h0
    go_enter Tryz.func78, Tryz.ntmps78
    go_wp2
    go_ret
    exact ⟨ret_str (by rw [HE.out]), Below.refl _ _⟩
  · have hq : ((xs.length : Int) == 0) = false := beq_eq_false_iff_ne.2 (by cases xs with
      | nil => exact absurd rfl h0
      | cons a t => simp; omega)
    have HE := hide (show (word ++ (⟨#[32]⟩ : ByteArray)) ++ mkS ((blanks xs).drop 1) = mkS (wrdL word.data.toList xs) by
      apply str_is
      unfold wrdL
      rw [blanks_cons h0]
      simp [dat_app, dat_mk])
    have h32 : (⟨#[32]⟩ : ByteArray).size = 1 := rfl
    have z1 : (word ++ (⟨#[32]⟩ : ByteArray)).size ≤ 101 := by rw [ByteArray.size_append, h32]; omega
    have z2 : (mkS ((blanks xs).drop 1)).size ≤ 23068672 := by rw [size_mkS]; exact blanks_drop HG.out hl
    have HN := hide (fun W (hb : Below w.heap.size w W) => c_numbersText _ xs W (HR.out.below hb) HG.out hl (HTB.out.below hb))
    generalize mkS ((blanks xs).drop 1) = nt at *
    clear h0
    go_enter Tryz.func78, Tryz.ntmps78
    go_wp2_with (go_at_call 127; refine (HN.out _ (Below.refl _ _)).mono ?_; rintro e w1 ⟨rfl, hb1⟩; have HB1 := hide hb1; clear hb1)
    go_ret
    exact ⟨ret_str (by rw [← HE.out]), HB1.out⟩
set_option maxHeartbeats 2000000 in
set_option maxRecDepth 20000 in
theorem c_prefixed (s p : ByteArray) (w : World) (hs : s.size ≤ 1048576) (hp : p.size ≤ 100) : Calls Tryz.prog 82 #[.string s, .string p] w fun e w' => e = .returned (.string (mkS (preL p.data.toList (linesF s)))) ∧ Below w.heap.size w w' := by
  have hpl : (preL p.data.toList (linesF s)).length ≤ 105906176 := by
    have h1 := preL_len p.data.toList s
    have h2 : p.data.toList.length = p.size := Array.length_toList
    have h3 := Nat.mul_le_mul hs (show p.data.toList.length + 1 ≤ 101 by omega)
    omega
  have HSM : Sec (∀ l ∈ linesF s, l.size ≤ 1048576) := hide (fun l hl => Nat.le_trans (line_le hl) hs)
  have HSP := hide (c_splitLines s w hs)
  have hll : (linesF s).length ≤ 1048576 := by rw [length_linesF]; exact Nat.le_trans (count_le s) hs
  generalize linesF s = ls at *
  go_enter Tryz.func82, Tryz.ntmps82
  go_wp2_with (go_at_call 79; refine HSP.out.mono ?_; rintro e w1 ⟨v, rfl, ho, hb⟩; have HR := hide ho.rd; have HB := hide hb; clear ho hb; obtain ⟨A, cap, rfl, hln, hm, hx⟩ := HR.out.openS; have HX := hide hx; clear hx)
  have hlt10 : (⟨#[10]⟩ : ByteArray).size = 1 := rfl
  go_loopw [5, 11] (fun o i wr => ∃ (k : Nat) (X : ByteArray), k ≤ ls.length ∧ i = .int .i64 (k : Int) ∧ o = .string X ∧ X = mkS (preL p.data.toList (ls.take k)) ∧ Below w1.heap.size w1 wr) (fun _ i _ => ls.length - (intOf i).toNat)
  case atStart => exact ⟨0, _, Nat.zero_le _, rfl, rfl, rfl, Below.refl _ _⟩
  case round =>
    obtain ⟨k, X, hk, rfl, rfl, hX, hb⟩ := hrel
    have HXX := hide hX; have HBr := hide hb; have hsz : X.size ≤ 105906176 := by rw [hX, size_mkS]; unfold preL; exact Nat.le_trans (flat_cut _ k) hpl
    clear hX hb
    by_cases hlt : k < ls.length
    · have hgk := List.getElem?_eq_getElem hlt
      obtain ⟨b, off, rfl, hb1, hc⟩ := HX.out k ls[k] hgk
      have d0 := (HBr.out.cell hb1).trans hc
      have hz := HSM.out ls[k] (List.getElem_mem hlt)
      have hb2 : b < wr.heap.size := Nat.lt_of_lt_of_le hb1 HBr.out.size
      generalize ls[k] = l at *
      have HGK := hide hgk; clear hgk hc
      have z1 : (p ++ l).size ≤ 1048676 := by rw [ByteArray.size_append]; omega
      have z2 : ((p ++ l) ++ (⟨#[10]⟩ : ByteArray)).size ≤ 1048677 := by rw [ByteArray.size_append, hlt10]; omega
      go_wp2
      go_roundw
      case rel => exact ⟨k + 1, _, by omega, by go_num, rfl, by rw [HXX.out]; apply str_is; unfold preL; rw [flat_take _ HGK.out]; simp [dat_app, dat_mk], HBr.out⟩
      case measure => simp [intOf]; omega
    · obtain rfl : k = ls.length := by omega
      have HXE := hide (show X = mkS (preL p.data.toList ls) by rw [HXX.out, List.take_length])
      go_wp2
      go_ret
      exact ⟨ret_str (by rw [HXE.out]), bthen HB.out HB.out.size HBr.out⟩
end Go.Proofs.YteiflbhcehajkaaGreatDoor
end
section
namespace Go.Proofs.YteiflbhcehajkaaGreatDoor
open Go.RowKit
theorem T.rd_openG {w : World} {E : TypeId} {sz : Nat} {α : Type} {tr : α → T} {xs : List α} {v : Value} (h : T.rd w (.sl E sz (xs.map tr)) [v]) :
    ∃ A cap, v = .slice A xs.length cap ∧ xs.length ≤ cap ∧ cap ≤ 9223372036854775807 ∧
      (∀ k x, xs[k]? = some x → ∃ b off cs, A = some ⟨b, off, none⟩ ∧ b < w.heap.size ∧ T.rd w (tr x) cs ∧ ∀ j u, cs[j]? = some u → w.cell? ⟨b, off + (k * sz + j), none⟩ = some u) := by
  obtain ⟨A, cap, hv, h1, h2, h3⟩ := T.rd_open h
  rw [List.length_map] at hv h1
  exact ⟨A, cap, hv, h1, h2, fun k x hk => h3 k (tr x) (by rw [List.getElem?_map, hk]; rfl)⟩
theorem T.rds_below' {w w' : World} {x : List T} {cs : List Value} (h : T.rds w x cs) (hb : Below w.heap.size w w') : T.rds w' x cs := T.rds_keep hb.size hb.block x cs h
/-- The struct's cells lie from place o of block b on. -/
def T.at (w : World) (fs : List T) (b o : Nat) : Prop := b < w.heap.size ∧ ∃ cs, T.rds w fs cs ∧ ∀ j u, cs[j]? = some u → w.cell? ⟨b, o + j, none⟩ = some u
theorem T.at_below {w w' : World} {fs : List T} {b o : Nat} (h : T.at w fs b o) (hb : Below w.heap.size w w') : T.at w' fs b o := by
  obtain ⟨h1, cs, h2, h3⟩ := h
  exact ⟨Nat.lt_of_lt_of_le h1 hb.size, cs, T.rds_below' h2 hb, fun j u hj => (hb.cell h1).trans (h3 j u hj)⟩
/-- An element of a slice, as a struct behind a pointer. -/
theorem T.at_elem {w : World} {fs : List T} {b off k sz o : Nat} {cs : List Value} (hb : b < w.heap.size) (h : T.rds w fs cs) (hc : ∀ j u, cs[j]? = some u → w.cell? ⟨b, off + (k * sz + j), none⟩ = some u) (ho : o = off + k * sz) : T.at w fs b o :=
  ⟨hb, cs, h, fun j u hj => by rw [ho, Nat.add_assoc]; exact hc j u hj⟩
/-- A block known whole, as a struct behind a pointer. -/
theorem T.at_bk {w : World} {fs : List T} {b : Nat} {t : TypeId} {cs : List Value} (hk : Bk w b t cs.toArray) (h : T.rds w fs cs) : T.at w fs b 0 :=
  ⟨hk.lt, cs, h, fun j u hj => by rw [Nat.zero_add, hk.cell j]; simpa using hj⟩
theorem beqI_f {a b : Int} (h : a ≠ b) : (a == b) = false := beq_false_of_ne h
theorem beqI_t {a b : Int} (h : a = b) : (a == b) = true := by simp [h]
theorem bneI_t {a b : Int} (h : a ≠ b) : (a != b) = true := by simp [h]
theorem bneI_f {a b : Int} (h : a = b) : (a != b) = false := by simp [h]
/-- Any world in which what lies in W still lies as it did. -/
noncomputable def bel (W u : World) : World := @ite _ (Below W.heap.size W u) (Classical.propDecidable _) u W
theorem bel_below (W u : World) : Below W.heap.size W (bel W u) := by
  unfold bel
  split
  · assumption
  · exact Below.refl _ _
theorem bel_of {W u : World} (h : Below W.heap.size W u) : u = bel W u := by
  unfold bel
  rw [if_pos h]
theorem bel_cell {W : World} {b o : Nat} {v : Value} (h : W.cell? ⟨b, o, none⟩ = some v) : ∀ u, (bel W u).cell? ⟨b, o, none⟩ = some v := fun u =>
  ((bel_below W u).cell (World.block_lt_of_cell? W _ h)).trans h
theorem bel_bk {W : World} {g : Nat} {t : TypeId} {cs : Array Value} (h : Bk W g t cs) : ∀ u i, (bel W u).cell? ⟨g, i, none⟩ = cs[i]? := fun u i =>
  (h.below (bel_below W u) h.lt).cell i
/-- A region that draws its order, whose operations and calls leave what was there as it was: one walk in the order of the text. -/
theorem wp_region_bel {P : Program} {id : Nat} {Q : Exit → Act → World → Prop} {a : Act} {w : World} {l : List Oper} (hm : P.follows .mixedOrders = true) (hB : Region.lexB .any l.toArray = true)
    (h : wpQuiet P l.toArray (fun w' => ∃ u, w' = bel w u) (fun a' => ∀ w', (∃ u, w' = bel w u) → Q .normal a' w') l a) : (Code.region id l.toArray true).wp P Q a w :=
  wp_region_quiet (C := fun w' => ∃ u, w' = bel w u) hm hB ⟨_, bel_of ⟨rfl, rfl, rfl, Nat.le_refl _, fun _ _ => rfl⟩⟩ (by simpa using h)
theorem Calls.quiet_bel {P : Program} {f : FuncId} {args : Array Value} {w u : World} {v : Value}
    (h : Calls P f args (bel w u) fun e w' => e = .returned v ∧ Below (bel w u).heap.size (bel w u) w') : Calls P f args (bel w u) fun e w'' => e = .returned v ∧ ∃ m, w'' = bel w m :=
  h.mono fun _ w' ⟨he, hb⟩ => ⟨he, w', bel_of (bthen (bel_below w u) (bel_below w u).size hb)⟩
theorem Calls.quiet_bel_same {P : Program} {f : FuncId} {args : Array Value} {w u : World} {v : Value}
    (h : Calls P f args (bel w u) fun e w' => e = .returned v ∧ bel w u = w') : Calls P f args (bel w u) fun e w'' => e = .returned v ∧ ∃ m, w'' = bel w m :=
  h.mono fun _ w' ⟨he, hb⟩ => ⟨he, u, hb.symm⟩
end Go.Proofs.YteiflbhcehajkaaGreatDoor
end
section
namespace Go.Proofs.YteiflbhcehajkaaGreatDoor
open Go.RowKit
theorem inB_iff {n a b : Int} : inB n a b = true ↔ a ≤ n ∧ n ≤ b := by simp [inB]
theorem inB_not {n a b : Int} (h : inB n a b = false) (k : a ≤ n ∧ n ≤ b) : False := by simp [inB] at h; omega
set_option maxHeartbeats 2000000 in
set_option maxRecDepth 20000 in
theorem c_areIndices (v : Value) (xs : List Int) (n : Int) (w : World) (hr : RdI w v xs) (h0 : 0 ≤ n) (h1 : n ≤ 9223372036854775807) : Calls Tryz.prog 73 #[v, .int .i64 n] w fun e w' => e = .returned (.bool (tf (Idx xs n))) ∧ w = w' := by
  obtain ⟨A, cap, rfl, hl, hc, hx⟩ := hr.open_
  have HX := hide hx; clear hx hr
  go_enter Tryz.func73, Tryz.ntmps73
  go_wp2
  go_loop [9] (fun i => ∃ k : Nat, k ≤ xs.length ∧ i = .int .i64 k ∧ Upto xs (fun _ x => 0 ≤ x ∧ x ≤ n - 1) k) (fun i => xs.length - (intOf i).toNat)
  case atStart => exact ⟨0, Nat.zero_le _, rfl, Upto.zero⟩
  case round =>
    obtain ⟨k, hk, rfl, hs⟩ := hrel
    have HS := hide hs; clear hs
    by_cases hlt : k < xs.length
    · have hgk := List.getElem?_eq_getElem hlt
      obtain ⟨b, off, rfl, hb, hcell⟩ := HX.out k xs[k] hgk
      generalize xs[k] = x at *
      have HG := hide hgk; clear hgk
      by_cases hq : inB x 0 (n - 1) = true
      · go_wp2_with (go_at_call 70; refine (c_within _ _ _ _).mono ?_; rintro e w' ⟨rfl, rfl⟩)
        go_round
        case rel => exact ⟨k + 1, by omega, by go_num, HS.out.step HG.out (inB_iff.1 hq)⟩
        case measure => simp [intOf]; omega
      · have hq' : inB x 0 (n - 1) = false := by simpa using hq
        clear hq
        go_wp2_with (go_at_call 70; refine (c_within _ _ _ _).mono ?_; rintro e w' ⟨rfl, rfl⟩)
        go_ret
        exact ⟨ret_bool (tf_no (fun hh => inB_not hq' (hh k x HG.out))).symm, rfl⟩
    · have hall := hide (HS.out.all (by omega))
      go_wp2
      go_ret
      exact ⟨ret_bool ((tf_yes hall.out).symm), rfl⟩
set_option maxHeartbeats 2000000 in
set_option maxRecDepth 20000 in
theorem c_areSignals (v : Value) (xs : List (List Int)) (w : World) (hr : T.rd w (T.sl 24 1 (xs.map (T.ints 2))) [v]) : Calls Tryz.prog 120 #[v] w fun e w' => e = .returned (.bool (tf (Each xs fun _ l => sigB l = true))) ∧ w = w' := by
  obtain ⟨A, cap, rfl, hl, hc, hx⟩ := T.rd_openG hr
  have HX := hide hx; clear hx hr
  go_enter Tryz.func120, Tryz.ntmps120
  go_wp2
  go_loop [7] (fun i => ∃ k : Nat, k ≤ xs.length ∧ i = .int .i64 k ∧ Upto xs (fun _ l => sigB l = true) k) (fun i => xs.length - (intOf i).toNat)
  case atStart => exact ⟨0, Nat.zero_le _, rfl, Upto.zero⟩
  case round =>
    obtain ⟨k, hk, rfl, hs⟩ := hrel
    have HS := hide hs; clear hs
    by_cases hlt : k < xs.length
    · have hgk := List.getElem?_eq_getElem hlt
      obtain ⟨b, off, cs, rfl, hb, hcs, hcell⟩ := HX.out k xs[k] hgk
      generalize xs[k] = l at *
      have HG := hide hgk; clear hgk
      obtain ⟨v3, rfl⟩ := T.rd_one hcs
      have d0 := hcell 0 v3 rfl
      rw [Nat.mul_one, Nat.add_zero] at d0
      have R := hide (T.rd_ints.1 hcs); clear hcs hcell
      obtain ⟨A3, c3, rfl, l3, m3, x3⟩ := R.out.open_
      clear x3
      by_cases hq : sigB l = true
      · go_wp2_with (go_at_call 100; refine (c_isSignal _ l _ R.out).mono ?_; rintro e w' ⟨rfl, rfl⟩)
        go_round
        case rel => exact ⟨k + 1, by omega, by go_num, HS.out.step HG.out hq⟩
        case measure => simp [intOf]; omega
      · have hq' : sigB l = false := by simpa using hq
        clear hq
        go_wp2_with (go_at_call 100; refine (c_isSignal _ l _ R.out).mono ?_; rintro e w' ⟨rfl, rfl⟩)
        go_ret
        exact ⟨ret_bool (tf_no (fun hh => by rw [hh k l HG.out] at hq'; exact absurd hq' (by simp))).symm, rfl⟩
    · have hall := hide (HS.out.all (by omega)); clear HS
      go_wp2
      go_ret
      exact ⟨ret_bool (tf_yes hall.out).symm, rfl⟩
set_option maxHeartbeats 2000000 in
set_option maxRecDepth 20000 in
theorem c_areSources (v : Value) (xs : List (List Int)) (w : World) (hr : T.rd w (T.sl 24 1 (xs.map (T.ints 2))) [v]) : Calls Tryz.prog 71 #[v] w fun e w' => e = .returned (.bool (tf (SourcesOk xs))) ∧ w = w' := by
  have R := hide hr
  obtain ⟨A, cap, rfl, hl, hc, hx⟩ := T.rd_openG hr
  clear hx hr
  by_cases h6 : xs.length ≤ 6
  · go_enter Tryz.func71, Tryz.ntmps71
    go_wp2_with (go_at_call 120; refine (c_areSignals _ xs _ R.out).mono ?_; rintro e w' ⟨rfl, rfl⟩)
    go_ret
    exact ⟨ret_bool (tf_iff ⟨fun h => ⟨h, h6⟩, fun h => h.each⟩), rfl⟩
  · go_enter Tryz.func71, Tryz.ntmps71
    go_wp2
    go_ret
    exact ⟨ret_bool (tf_no fun h => h6 h.few).symm, rfl⟩
set_option maxHeartbeats 2000000 in
set_option maxRecDepth 20000 in
theorem c_areTables (v : Value) (xs : List (List Int)) (w : World) (hr : T.rd w (T.sl 24 1 (xs.map (T.ints 2))) [v]) : Calls Tryz.prog 208 #[v] w fun e w' => e = .returned (.bool (tf (TablesOk xs))) ∧ w = w' := by
  obtain ⟨A, cap, rfl, hl, hc, hx⟩ := T.rd_openG hr
  have HX := hide hx; clear hx hr
  go_enter Tryz.func208, Tryz.ntmps208
  go_wp2
  go_loop [8] (fun i => ∃ k : Nat, k ≤ xs.length ∧ i = .int .i64 k ∧ Upto xs (fun _ t => (t.length = 2 ∨ t.length = 4 ∨ t.length = 8 ∨ t.length = 16) ∧ smpB t = true) k) (fun i => xs.length - (intOf i).toNat)
  case atStart => exact ⟨0, Nat.zero_le _, rfl, Upto.zero⟩
  case round =>
    obtain ⟨k, hk, rfl, hs⟩ := hrel
    have HS := hide hs; clear hs
    by_cases hlt : k < xs.length
    · have hgk := List.getElem?_eq_getElem hlt
      obtain ⟨b, off, cs, rfl, hb, hcs, hcell⟩ := HX.out k xs[k] hgk
      generalize xs[k] = l at *
      have HG := hide hgk; clear hgk
      obtain ⟨v3, rfl⟩ := T.rd_one hcs
      have d0 := hcell 0 v3 rfl
      rw [Nat.mul_one, Nat.add_zero] at d0
      have R := hide (T.rd_ints.1 hcs); clear hcs hcell
      obtain ⟨A3, c3, rfl, l3, m3, x3⟩ := R.out.open_
      clear x3
      by_cases hn : l.length = 2 ∨ l.length = 4 ∨ l.length = 8 ∨ l.length = 16
      · by_cases hq : smpB l = true
        · rcases hn with hn | hn | hn | hn
          · skip
            have n2 : ((l.length : Int) != 2) = false := by simp; omega
            clear hn
            have hn : l.length = 2 ∨ l.length = 4 ∨ l.length = 8 ∨ l.length = 16 := by simp at n2; omega
            have HN := hide hn; clear hn
            go_wp2_with (go_at_call 150; refine (c_areSamples _ l _ R.out).mono ?_; rintro e w' ⟨rfl, rfl⟩)
            go_round
            case rel => exact ⟨k + 1, by omega, by go_num, HS.out.step HG.out ⟨HN.out, hq⟩⟩
            case measure => simp [intOf]; omega
          · skip
            have n2 : ((l.length : Int) != 2) = true := by simp; omega
            have n4 : ((l.length : Int) != 4) = false := by simp; omega
            clear hn
            have hn : l.length = 2 ∨ l.length = 4 ∨ l.length = 8 ∨ l.length = 16 := by simp at n4; omega
            have HN := hide hn; clear hn
            go_wp2_with (go_at_call 150; refine (c_areSamples _ l _ R.out).mono ?_; rintro e w' ⟨rfl, rfl⟩)
            go_round
            case rel => exact ⟨k + 1, by omega, by go_num, HS.out.step HG.out ⟨HN.out, hq⟩⟩
            case measure => simp [intOf]; omega
          · skip
            have n2 : ((l.length : Int) != 2) = true := by simp; omega
            have n4 : ((l.length : Int) != 4) = true := by simp; omega
            have n8 : ((l.length : Int) != 8) = false := by simp; omega
            clear hn
            have hn : l.length = 2 ∨ l.length = 4 ∨ l.length = 8 ∨ l.length = 16 := by simp at n8; omega
            have HN := hide hn; clear hn
            go_wp2_with (go_at_call 150; refine (c_areSamples _ l _ R.out).mono ?_; rintro e w' ⟨rfl, rfl⟩)
            go_round
            case rel => exact ⟨k + 1, by omega, by go_num, HS.out.step HG.out ⟨HN.out, hq⟩⟩
            case measure => simp [intOf]; omega
          · skip
            have n2 : ((l.length : Int) != 2) = true := by simp; omega
            have n4 : ((l.length : Int) != 4) = true := by simp; omega
            have n8 : ((l.length : Int) != 8) = true := by simp; omega
            have n16 : ((l.length : Int) != 16) = false := by simp; omega
            clear hn
            have hn : l.length = 2 ∨ l.length = 4 ∨ l.length = 8 ∨ l.length = 16 := by simp at n16; omega
            have HN := hide hn; clear hn
            go_wp2_with (go_at_call 150; refine (c_areSamples _ l _ R.out).mono ?_; rintro e w' ⟨rfl, rfl⟩)
            go_round
            case rel => exact ⟨k + 1, by omega, by go_num, HS.out.step HG.out ⟨HN.out, hq⟩⟩
            case measure => simp [intOf]; omega
        · have hq' : smpB l = false := by simpa using hq
          clear hq
          rcases hn with hn | hn | hn | hn
          · skip
            have n2 : ((l.length : Int) != 2) = false := by simp; omega
            clear hn
            go_wp2_with (go_at_call 150; refine (c_areSamples _ l _ R.out).mono ?_; rintro e w' ⟨rfl, rfl⟩)
            go_ret
            exact ⟨ret_bool (tf_no (fun hh => by rw [(hh.each k l HG.out).2] at hq'; exact absurd hq' (by simp))).symm, rfl⟩
          · skip
            have n2 : ((l.length : Int) != 2) = true := by simp; omega
            have n4 : ((l.length : Int) != 4) = false := by simp; omega
            clear hn
            go_wp2_with (go_at_call 150; refine (c_areSamples _ l _ R.out).mono ?_; rintro e w' ⟨rfl, rfl⟩)
            go_ret
            exact ⟨ret_bool (tf_no (fun hh => by rw [(hh.each k l HG.out).2] at hq'; exact absurd hq' (by simp))).symm, rfl⟩
          · skip
            have n2 : ((l.length : Int) != 2) = true := by simp; omega
            have n4 : ((l.length : Int) != 4) = true := by simp; omega
            have n8 : ((l.length : Int) != 8) = false := by simp; omega
            clear hn
            go_wp2_with (go_at_call 150; refine (c_areSamples _ l _ R.out).mono ?_; rintro e w' ⟨rfl, rfl⟩)
            go_ret
            exact ⟨ret_bool (tf_no (fun hh => by rw [(hh.each k l HG.out).2] at hq'; exact absurd hq' (by simp))).symm, rfl⟩
          · skip
            have n2 : ((l.length : Int) != 2) = true := by simp; omega
            have n4 : ((l.length : Int) != 4) = true := by simp; omega
            have n8 : ((l.length : Int) != 8) = true := by simp; omega
            have n16 : ((l.length : Int) != 16) = false := by simp; omega
            clear hn
            go_wp2_with (go_at_call 150; refine (c_areSamples _ l _ R.out).mono ?_; rintro e w' ⟨rfl, rfl⟩)
            go_ret
            exact ⟨ret_bool (tf_no (fun hh => by rw [(hh.each k l HG.out).2] at hq'; exact absurd hq' (by simp))).symm, rfl⟩
      · have n2 : ((l.length : Int) != 2) = true := by simp; omega
        have n4 : ((l.length : Int) != 4) = true := by simp; omega
        have n8 : ((l.length : Int) != 8) = true := by simp; omega
        have n16 : ((l.length : Int) != 16) = true := by simp; omega
        go_wp2
        go_ret
        exact ⟨ret_bool (tf_no (fun hh => hn (hh.each k l HG.out).1)).symm, rfl⟩
    · have hall := hide (HS.out.all (by omega)); clear HS
      by_cases h4 : xs.length ≤ 4
      · go_wp2
        go_ret
        exact ⟨ret_bool (by rw [tf_yes ⟨hall.out, h4⟩]; simp; omega), rfl⟩
      · go_wp2
        go_ret
        exact ⟨ret_bool (by rw [tf_no fun h => h4 h.few]; simp; omega), rfl⟩
set_option maxHeartbeats 2000000 in
set_option maxRecDepth 20000 in
theorem c_isClip (x : GClip) (cs : List Value) (w : World) (h : T.rds w x.fs cs) : Calls Tryz.prog 123 #[.agg cs.toArray] w fun e w' => e = .returned (.bool (tf (ClipOk x))) ∧ Below w.heap.size w w' := by
  obtain rfl := GClip.rd_open h
  clear h
  have HB0 := hide (show Below w.heap.size w (w.alloc (.cells #[.int .i64 x.fSource, .int .i64 x.fFrom, .int .i64 x.fLength, .int .i64 x.fAt, .int .i64 x.fGain] 141)) from (Below.refl _ _).alloc (Nat.le_refl _) _)
  have HK0 := hide (Bk.born w 141 #[.int .i64 x.fSource, .int .i64 x.fFrom, .int .i64 x.fLength, .int .i64 x.fAt, .int .i64 x.fGain])
  go_enter Tryz.func123, Tryz.ntmps123
  by_cases h1 : inB x.fSource 0 5 = true
  rotate_left
  · have hq : inB x.fSource 0 5 = false := by simpa using h1
    go_wp2_with (go_at_call 70; refine (c_within _ _ _ _).mono ?_; rintro e w' ⟨rfl, rfl⟩)
    go_ret
    exact ⟨ret_bool (tf_no fun hh => by exact h1 hh.source).symm, HB0.out⟩
  by_cases h2 : inB x.fLength 1 4000 = true
  rotate_left
  · have hq : inB x.fLength 1 4000 = false := by simpa using h2
    go_wp2_with (go_at_call 70; refine (c_within _ _ _ _).mono ?_; rintro e w' ⟨rfl, rfl⟩)
    go_ret
    exact ⟨ret_bool (tf_no fun hh => by exact h2 hh.length).symm, HB0.out⟩
  have hb := inB_iff.1 h2
  by_cases h3 : inB x.fFrom 0 (4000 - x.fLength) = true
  rotate_left
  · have hq : inB x.fFrom 0 (4000 - x.fLength) = false := by simpa using h3
    go_wp2_with (go_at_call 70; refine (c_within _ _ _ _).mono ?_; rintro e w' ⟨rfl, rfl⟩)
    go_ret
    exact ⟨ret_bool (tf_no fun hh => by exact h3 hh.from_).symm, HB0.out⟩
  by_cases h4 : inB x.fAt 0 (4000 - x.fLength) = true
  rotate_left
  · have hq : inB x.fAt 0 (4000 - x.fLength) = false := by simpa using h4
    go_wp2_with (go_at_call 70; refine (c_within _ _ _ _).mono ?_; rintro e w' ⟨rfl, rfl⟩)
    go_ret
    exact ⟨ret_bool (tf_no fun hh => by exact h4 hh.at_).symm, HB0.out⟩
  by_cases h5 : Smp x.fGain
  rotate_left
  · have hq : decide (Smp x.fGain) = false := by simpa using h5
    go_wp2_with (first | (go_at_call 70; refine (c_within _ _ _ _).mono ?_; rintro e w' ⟨rfl, rfl⟩) | (go_at_call 169; refine (c_isSample _ _).mono ?_; rintro e w' ⟨rfl, rfl⟩))
    go_ret
    exact ⟨ret_bool (tf_no fun hh => by exact h5 hh.gain).symm, HB0.out⟩
  have hq : decide (Smp x.fGain) = true := by simpa using h5
  go_wp2_with (first | (go_at_call 70; refine (c_within _ _ _ _).mono ?_; rintro e w' ⟨rfl, rfl⟩) | (go_at_call 169; refine (c_isSample _ _).mono ?_; rintro e w' ⟨rfl, rfl⟩))
  go_ret
  exact ⟨ret_bool (by rw [tf_yes ⟨h1, h2, h3, h4, h5⟩]), HB0.out⟩
end Go.Proofs.YteiflbhcehajkaaGreatDoor
end
section
namespace Go.Proofs.YteiflbhcehajkaaGreatDoor
open Go.RowKit
end Go.Proofs.YteiflbhcehajkaaGreatDoor
end
