/- Contracts: a frame of a store that is replaced; both sides. -/
import Derived.Test.YtpmflkoepnanoaaGreatJa
import Derived.Deep.RegionHeld3
namespace Go.Proofs.YtpmflkoepnanoaaGreat
open Go.RowKit
theorem Opn.cells {s : ByteArray} {t : List Nat} (h : Opn s t) {j : Nat} (hj : j < cntF s) {w : World} {A : Option Addr} {l cap : Nat} (hr : RdI w (.slice A l cap) (t.map fun (x : Nat) => (x : Int))) :
    ∃ b off, A = some ⟨b, off, none⟩ ∧ b < w.heap.size ∧ w.cell? ⟨b, off + j, none⟩ = some (.int .i64 (plc s j : Nat)) ∧ w.cell? ⟨b, off + (j + 1), none⟩ = some (.int .i64 (plc s (j + 1) : Nat)) ∧ l = cntF s + 1 ∧ l ≤ cap ∧ cap ≤ 9223372036854775807 := by
  have hk := (h.lt hj).1
  obtain ⟨A', cap', he, hl, hc, hx⟩ := hr.open_
  injection he with h1 h2 h3
  subst h1 h3
  have hta : t[j]? = some (plc s j) := by rw [h.plcs j, List.getD_eq_getElem?_getD, List.getElem?_eq_getElem (show j < t.length by omega)]; rfl
  have htb : t[j + 1]? = some (plc s (j + 1)) := by rw [h.plcs (j + 1), List.getD_eq_getElem?_getD, List.getElem?_eq_getElem hk]; rfl
  obtain ⟨B, off, rfl, hB, hca⟩ := hx j (plc s j : Nat) (by rw [List.getElem?_map, hta]; rfl)
  obtain ⟨B2, off2, hE, _, hcb⟩ := hx (j + 1) (plc s (j + 1) : Nat) (by rw [List.getElem?_map, htb]; rfl)
  injection hE with hE
  injection hE with h1' h2'
  subst h1' h2'
  have hlen : (t.map fun (x : Nat) => (x : Int)).length = cntF s + 1 := by rw [List.length_map]; exact h.len
  exact ⟨B, off, rfl, hB, hca, hcb, by rw [h2, hlen], by rw [h2]; exact hl, hc⟩
theorem Opn.le {s : ByteArray} {t : List Nat} (h : Opn s t) {j : Nat} (hj : j < cntF s) : plc s j + 2 ≤ plc s (j + 1) ∧ plc s (j + 1) ≤ s.size := by
  have hk := (h.lt hj).1
  rw [h.plcs j, h.plcs (j + 1)]
  exact ⟨h.steps.1 j hk, h.steps.2 (j + 1) hk⟩
def StR (p : ByteArray × Int) (w : World) (e : Ending) (w' : World) : Prop := e = .returned (.tuple #[.string p.1, .int .i64 p.2]) ∧ Below w.heap.size w w'
theorem StR.mk {p : ByteArray × Int} {w w' : World} {a : ByteArray} {c : Int} (h : p = (a, c)) (hb : Below w.heap.size w w') : StR p w (.returned (.tuple #[.string a, .int .i64 c])) w' := ⟨by rw [h], hb⟩
def rplF (s : ByteArray) (k : Int) (xs : List Int) : ByteArray × Int :=
  if sigB xs = false then (⟨#[]⟩, 1) else if (placesF s).2 ≠ 0 then (⟨#[]⟩, (placesF s).2) else if inB k 0 ((cntF s : Int) - 1) = false then (⟨#[]⟩, 2)
  else if xs.length ≠ lenK (numS s 6) (numS s 4) k.toNat then (⟨#[]⟩, 6) else (s.extract 0 (plc s k.toNat) ++ bodyS xs ++ s.extract (plc s (k.toNat + 1)) s.size, 0)
section
variable {s : ByteArray} {k : Int} {j : Nat} {xs ps : List Int} {c : Int}
theorem rpl1 (h : sigB xs = false) : rplF s k xs = (⟨#[]⟩, 1) := by unfold rplF; rw [if_pos h]
theorem rpl2 (h : sigB xs = true) (hp : placesF s = (ps, c)) (hc : c ≠ 0) : rplF s k xs = (⟨#[]⟩, c) := by unfold rplF; rw [if_neg (by rw [h]; simp), hp]; exact if_pos hc
theorem rpl3 (h : sigB xs = true) (hp : placesF s = (ps, 0)) (hk : inB k 0 ((cntF s : Int) - 1) = false) : rplF s k xs = (⟨#[]⟩, 2) := by unfold rplF; rw [if_neg (by rw [h]; simp), hp]; simp only; rw [if_neg (by simp), if_pos hk]
theorem rpl4 (h : sigB xs = true) (hp : placesF s = (ps, 0)) (hk : inB (j : Int) 0 ((cntF s : Int) - 1) = true) (hl : xs.length ≠ lenK (numS s 6) (numS s 4) j) : rplF s (j : Int) xs = (⟨#[]⟩, 6) := by
  unfold rplF; rw [if_neg (by rw [h]; simp), hp]; simp only; rw [if_neg (by simp), if_neg (by rw [hk]; simp)]; simp only [Int.toNat_natCast]; rw [if_pos hl]
theorem rpl5 (h : sigB xs = true) (hp : placesF s = (ps, 0)) (hk : inB (j : Int) 0 ((cntF s : Int) - 1) = true) (hl : xs.length = lenK (numS s 6) (numS s 4) j) : rplF s (j : Int) xs = (s.extract 0 (plc s j) ++ bodyS xs ++ s.extract (plc s (j + 1)) s.size, 0) := by
  unfold rplF; rw [if_neg (by rw [h]; simp), hp]; simp only; rw [if_neg (by simp), if_neg (by rw [hk]; simp)]; simp only [Int.toNat_natCast]; rw [if_neg (by simpa using hl)]
end
set_option maxHeartbeats 1000000 in
set_option maxRecDepth 100000 in
theorem openW_no {xs : List Int} (s : ByteArray) (v : Value) (w : World) (hr : RdI w v xs) (hg : sigB xs = false) : Calls Tryz.prog 34 #[.string s, v] w fun e w' =>
    ∃ t n f A l cap, e = .returned (.tuple #[.agg #[.string t, .int .i64 n, .int .i64 f, .slice A l cap], .int .i64 1]) ∧ Below w.heap.size w w' := by
  have HR := hide hr; clear hr
  go_enter Tryz.func34, Tryz.ntmps34
  go_wp2_with (go_at_call 24; refine (c_isSignal _ xs _ (HR.out.below ((Below.refl _ _).alloc (Nat.le_refl _) _))).mono ?_; rintro e w' ⟨rfl, rfl⟩)
  refine bodyPost_ret (v := .tuple #[.agg #[.string ⟨#[]⟩, .int .i64 0, .int .i64 0, .slice none 0 0], .int .i64 1]) (by simp [results, Tryz.results34, go_sem]) rfl ?_
  exact ⟨_, _, _, _, _, _, rfl, (Below.refl _ _).alloc (Nat.le_refl _) _⟩
set_option maxHeartbeats 1000000 in
set_option maxRecDepth 100000 in
theorem openW_err {xs ps : List Int} {c : Int} {s : ByteArray} (hp : placesF s = (ps, c)) (hc : c ≠ 0) (v : Value) (w : World) (hs : s.size ≤ 1073741824) (hr : RdI w v xs) (hg : sigB xs = true) : Calls Tryz.prog 34 #[.string s, v] w fun e w' =>
    ∃ t n f A l cap, e = .returned (.tuple #[.agg #[.string t, .int .i64 n, .int .i64 f, .slice A l cap], .int .i64 c]) ∧ Below w.heap.size w w' := by
  have HR := hide hr; clear hr
  have HPL := hide (fun w => open_err hp hc w hs)
  clear hp hc
  go_enter Tryz.func34, Tryz.ntmps34
  go_wp2_with (go_at_call 24; refine (c_isSignal _ xs _ (HR.out.below ((Below.refl _ _).alloc (Nat.le_refl _) _))).mono ?_; rintro e w' ⟨rfl, rfl⟩)
  refine (HPL.out _).mono ?_; rintro e w1 ⟨t, n, f, A, l, cap, rfl, hb1⟩
  have hbk := (Bk.born w 50 #[.string ⟨#[]⟩, .int .i64 0, .int .i64 0, .slice none 0 0]).below hb1 (by simp)
  have k0 := hbk.cell 0; have k1 := hbk.cell 1; have k2 := hbk.cell 2; have k3 := hbk.cell 3
  have f0 := hbk.free 0; have f1 := hbk.free 1; have f2 := hbk.free 2; have f3 := hbk.free 3
  simp at k0 k1 k2 k3
  have HB1 := hide (below_of_alloc hb1); have hsz1 := HB1.out.size
  clear hbk hb1
  go_wp2
  refine bodyPost_ret (v := .tuple #[.agg #[.string t, .int .i64 n, .int .i64 f, .slice A l cap], .int .i64 c]) (by simp [results, Tryz.results34, go_sem, k0, k1, k2, k3, f0, f1, f2, f3]) rfl ?_
  exact ⟨_, _, _, _, _, _, rfl, (((HB1.out.setCell (Nat.le_refl _) _).setCell (Nat.le_refl _) _).setCell (Nat.le_refl _) _).setCell (Nat.le_refl _) _⟩
set_option maxHeartbeats 1000000 in
set_option maxRecDepth 100000 in
theorem openW_ok {xs ps : List Int} {s : ByteArray} (hp : placesF s = (ps, 0)) (v : Value) (w : World) (hs : s.size ≤ 1073741824) (hr : RdI w v xs) (hg : sigB xs = true) : Calls Tryz.prog 34 #[.string s, v] w fun e w' =>
    ∃ A cap, e = .returned (.tuple #[.agg #[.string s, .int .i64 (numS s 6 : Nat), .int .i64 (numS s 4 : Nat), .slice A ps.length cap], .int .i64 0]) ∧ OwI 2 w' w.heap.size (.slice A ps.length cap) ps ∧ Below w.heap.size w w' := by
  have HR := hide hr; clear hr
  have HPL := hide (fun w => open_ok hp w hs)
  clear hp
  generalize numS s 6 = n at *
  generalize numS s 4 = f at *
  go_enter Tryz.func34, Tryz.ntmps34
  go_wp2_with (go_at_call 24; refine (c_isSignal _ xs _ (HR.out.below ((Below.refl _ _).alloc (Nat.le_refl _) _))).mono ?_; rintro e w' ⟨rfl, rfl⟩)
  refine (HPL.out _).mono ?_; rintro e w1 ⟨A, cap, rfl, ho1, hb1⟩
  have hbk := (Bk.born w 50 #[.string ⟨#[]⟩, .int .i64 0, .int .i64 0, .slice none 0 0]).below hb1 (by simp)
  have k0 := hbk.cell 0; have k1 := hbk.cell 1; have k2 := hbk.cell 2; have k3 := hbk.cell 3
  have f0 := hbk.free 0; have f1 := hbk.free 1; have f2 := hbk.free 2; have f3 := hbk.free 3
  simp at k0 k1 k2 k3
  have HB1 := hide (below_of_alloc hb1); have hsz1 := HB1.out.size
  have HO1 : Sec (OwI 2 w1 (w.heap.size + 1) (.slice A ps.length cap) ps) := hide (by have := ho1; simpa using this)
  clear hbk hb1 ho1
  go_wp2
  refine bodyPost_ret (v := .tuple #[.agg #[.string s, .int .i64 (n : Int), .int .i64 (f : Int), .slice A ps.length cap], .int .i64 0]) (by simp [results, Tryz.results34, go_sem, k0, k1, k2, k3, f0, f1, f2, f3]) rfl ?_
  have hfar : ∀ b, (Value.slice A ps.length cap).ownBlock = some b → b ≠ w.heap.size := fun b hb => by have := (HO1.out.lt b hb).1; omega
  exact ⟨_, _, rfl, ((((HO1.out.far hfar _).far hfar _).far hfar _).far hfar _).more (by omega), (((HB1.out.setCell (Nat.le_refl _) _).setCell (Nat.le_refl _) _).setCell (Nat.le_refl _) _).setCell (Nat.le_refl _) _⟩
end Go.Proofs.YtpmflkoepnanoaaGreat
