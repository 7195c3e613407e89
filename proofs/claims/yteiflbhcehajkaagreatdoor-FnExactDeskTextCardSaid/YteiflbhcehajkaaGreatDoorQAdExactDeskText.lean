/- Arguments that are structs read as nested data. -/
import Derived.Test.YteiflbhcehajkaaGreatDoorQAcExactDeskText
set_option linter.unusedVariables false
set_option linter.unusedSimpArgs false
namespace Go.Proofs.YteiflbhcehajkaaGreatDoor
open Go.RowKit Go.ChangeShapes Go.WideShapes Go.Deep
theorem len_of {α : Type} : ∀ (n : Nat) (l : List α), l.length = n + 1 → ∃ a t, l = a :: t ∧ t.length = n
  | n, a :: t, h => ⟨a, t, rfl, by simpa using h⟩
theorem i64_ok {n : Int} (h : (Lit.int .i64 n).wf = true) : I64 n := i64_of_wf h
theorem op_n {H : Type} {enc : TypeId × Value → H} {W : World} {base : Nat} {spare : Nat → Bool} {held : Bool} {fuel : Nat} {cs : List Value} {x : DataW H × List MemPlace} (h : DataW.trod enc Tryz.prog W base spare held fuel 2 cs = some x) : ∃ n : Int, cs = [.int .i64 n] ∧ I64 n := by
  obtain ⟨n, e, _, hw⟩ := DataW.trod_int Tryz.underlying2 h
  exact ⟨n, e, i64_ok hw⟩
theorem op_s {H : Type} {enc : TypeId × Value → H} {W : World} {base : Nat} {spare : Nat → Bool} {held : Bool} {fuel : Nat} {cs : List Value} {x : DataW H × List MemPlace} (h : DataW.trod enc Tryz.prog W base spare held fuel 9 cs = some x) : ∃ n : ByteArray, cs = [.string n] ∧ n.size ≤ 9223372036854775807 := by
  obtain ⟨n, e, _, hw⟩ := DataW.trod_string Tryz.underlying9 h
  exact ⟨n, e, by unfold maxLen at hw; omega⟩
theorem op_LI {H : Type} {enc : TypeId × Value → H} {W : World} {base : Nat} {spare : Nat → Bool} {held : Bool} {fuel : Nat} {cs : List Value} {x : DataW H × List MemPlace} (h : DataW.trod enc Tryz.prog W base spare held fuel 24 cs = some x) : ∃ (v : Value) (xs : List Int), cs = [v] ∧ T.rd W (T.ints 2 xs) [v] ∧ ∀ y ∈ xs, I64 y :=
  rdT_open 2 T.num I64 (fun _ => rfl) (by omega) 0 Tryz.underlying24 (by kernel_rfl) (fun n cs' y hy => by
    obtain ⟨z, e, hz⟩ := op_n hy
    exact ⟨z, by simp only [T.rd]; exact e, hz⟩) h
theorem op_LL {H : Type} {enc : TypeId × Value → H} {W : World} {base : Nat} {spare : Nat → Bool} {held : Bool} {fuel : Nat} {cs : List Value} {x : DataW H × List MemPlace} (h : DataW.trod enc Tryz.prog W base spare held fuel 22 cs = some x) : ∃ (v : Value) (xs : List (List Int)), cs = [v] ∧ T.rd W (T.sl 24 1 (xs.map (T.ints 2))) [v] ∧ ∀ l ∈ xs, ∀ y ∈ l, I64 y :=
  rdT_open 24 (T.ints 2) (fun l => ∀ y ∈ l, I64 y) (fun _ => rfl) (by omega) [] Tryz.underlying22 (by kernel_rfl) (fun n cs' y hy => by
    obtain ⟨v, z, e, hr, hz⟩ := op_LI hy
    exact ⟨z, by rw [e]; exact hr, hz⟩) h
theorem op_Clip {H : Type} {enc : TypeId × Value → H} {W : World} {base : Nat} {spare : Nat → Bool} {held : Bool} {fuel : Nat} {cs : List Value} {x : DataW H × List MemPlace} (h : DataW.trod enc Tryz.prog W base spare held fuel 252 cs = some x) : ∃ g : GClip, T.rds W g.fs cs ∧ g.good := by
  obtain ⟨ys, k, _, _, hcl, hyl, hf⟩ := DataW.trod_struct Tryz.underlying252 h
  have hl5 : cs.length = 5 := hcl.trans (by kernel_rfl)
  obtain ⟨c0, cs0, rfl, hl4⟩ := len_of 4 _ hl5
  obtain ⟨c1, cs1, rfl, hl3⟩ := len_of 3 _ hl4
  obtain ⟨c2, cs2, rfl, hl2⟩ := len_of 2 _ hl3
  obtain ⟨c3, cs3, rfl, hl1⟩ := len_of 1 _ hl2
  obtain ⟨c4, cs4, rfl, hl0⟩ := len_of 0 _ hl1
  obtain rfl : cs4 = [] := List.eq_nil_of_length_eq_zero hl0
  have hyn : ys.length = 5 := hyl
  have z0 : Tryz.prog.cellsOf 2 = 1 := by kernel_rfl
  have g0 : DataW.trod enc Tryz.prog W base spare held k 2 (List.take (Tryz.prog.cellsOf 2) (List.drop 0 [c0, c1, c2, c3, c4])) = ys[0]? := hf 0 _ rfl
  rw [z0, List.getElem?_eq_getElem (by omega)] at g0
  replace g0 : DataW.trod enc Tryz.prog W base spare held k 2 [c0] = some _ := g0
  obtain ⟨n0, e0, w0⟩ := op_n g0
  have g1 : DataW.trod enc Tryz.prog W base spare held k 2 (List.take (Tryz.prog.cellsOf 2) (List.drop 1 [c0, c1, c2, c3, c4])) = ys[1]? := hf 1 _ rfl
  rw [z0, List.getElem?_eq_getElem (by omega)] at g1
  replace g1 : DataW.trod enc Tryz.prog W base spare held k 2 [c1] = some _ := g1
  obtain ⟨n1, e1, w1⟩ := op_n g1
  have g2 : DataW.trod enc Tryz.prog W base spare held k 2 (List.take (Tryz.prog.cellsOf 2) (List.drop 2 [c0, c1, c2, c3, c4])) = ys[2]? := hf 2 _ rfl
  rw [z0, List.getElem?_eq_getElem (by omega)] at g2
  replace g2 : DataW.trod enc Tryz.prog W base spare held k 2 [c2] = some _ := g2
  obtain ⟨n2, e2, w2⟩ := op_n g2
  have g3 : DataW.trod enc Tryz.prog W base spare held k 2 (List.take (Tryz.prog.cellsOf 2) (List.drop 3 [c0, c1, c2, c3, c4])) = ys[3]? := hf 3 _ rfl
  rw [z0, List.getElem?_eq_getElem (by omega)] at g3
  replace g3 : DataW.trod enc Tryz.prog W base spare held k 2 [c3] = some _ := g3
  obtain ⟨n3, e3, w3⟩ := op_n g3
  have g4 : DataW.trod enc Tryz.prog W base spare held k 2 (List.take (Tryz.prog.cellsOf 2) (List.drop 4 [c0, c1, c2, c3, c4])) = ys[4]? := hf 4 _ rfl
  rw [z0, List.getElem?_eq_getElem (by omega)] at g4
  replace g4 : DataW.trod enc Tryz.prog W base spare held k 2 [c4] = some _ := g4
  obtain ⟨n4, e4, w4⟩ := op_n g4
  obtain rfl : c0 = _ := (List.cons.inj e0).1
  obtain rfl : c1 = _ := (List.cons.inj e1).1
  obtain rfl : c2 = _ := (List.cons.inj e2).1
  obtain rfl : c3 = _ := (List.cons.inj e3).1
  obtain rfl : c4 = _ := (List.cons.inj e4).1
  refine ⟨⟨n0, n1, n2, n3, n4⟩, ?_, ⟨w0, w1, w2, w3, w4⟩⟩
  unfold GClip.fs
  exact T.c_rn (T.c_rn (T.c_rn (T.c_rn (T.c_rn (T.c_re)))))
theorem op_LClip {H : Type} {enc : TypeId × Value → H} {W : World} {base : Nat} {spare : Nat → Bool} {held : Bool} {fuel : Nat} {cs : List Value} {x : DataW H × List MemPlace} (h : DataW.trod enc Tryz.prog W base spare held fuel 119 cs = some x) : ∃ (v : Value) (xs : List GClip), cs = [v] ∧ T.rd W (T.sl 141 5 (xs.map GClip.t)) [v] ∧ ∀ y ∈ xs, GClip.good y :=
  rdT_open 141 GClip.t GClip.good GClip.wide_t (by omega) ⟨0, 0, 0, 0, 0⟩ Tryz.underlying119 (by kernel_rfl) (fun n cs' y hy => by
    obtain ⟨z, hz, hg⟩ := op_Clip hy
    exact ⟨z, by simp only [GClip.t, T.rd]; exact hz, hg⟩) h
theorem op_Track {H : Type} {enc : TypeId × Value → H} {W : World} {base : Nat} {spare : Nat → Bool} {held : Bool} {fuel : Nat} {cs : List Value} {x : DataW H × List MemPlace} (h : DataW.trod enc Tryz.prog W base spare held fuel 121 cs = some x) : ∃ g : GTrack, T.rds W g.fs cs ∧ g.good := by
  obtain ⟨ys, k, _, _, hcl, hyl, hf⟩ := DataW.trod_struct Tryz.underlying121 h
  have hl1 : cs.length = 1 := hcl.trans (by kernel_rfl)
  obtain ⟨c0, cs0, rfl, hl0⟩ := len_of 0 _ hl1
  obtain rfl : cs0 = [] := List.eq_nil_of_length_eq_zero hl0
  have hyn : ys.length = 1 := hyl
  have z0 : Tryz.prog.cellsOf 119 = 1 := by kernel_rfl
  have g0 : DataW.trod enc Tryz.prog W base spare held k 119 (List.take (Tryz.prog.cellsOf 119) (List.drop 0 [c0])) = ys[0]? := hf 0 _ rfl
  rw [z0, List.getElem?_eq_getElem (by omega)] at g0
  replace g0 : DataW.trod enc Tryz.prog W base spare held k 119 [c0] = some _ := g0
  obtain ⟨v0, n0, e0, r0, w0⟩ := op_LClip g0
  obtain rfl : c0 = v0 := (List.cons.inj e0).1
  refine ⟨⟨n0⟩, ?_, w0⟩
  unfold GTrack.fs
  exact T.c_rl r0 (T.c_re)
theorem op_LTrack {H : Type} {enc : TypeId × Value → H} {W : World} {base : Nat} {spare : Nat → Bool} {held : Bool} {fuel : Nat} {cs : List Value} {x : DataW H × List MemPlace} (h : DataW.trod enc Tryz.prog W base spare held fuel 23 cs = some x) : ∃ (v : Value) (xs : List GTrack), cs = [v] ∧ T.rd W (T.sl 114 1 (xs.map GTrack.t)) [v] ∧ ∀ y ∈ xs, GTrack.good y :=
  rdT_open 114 GTrack.t GTrack.good GTrack.wide_t (by omega) ⟨[]⟩ Tryz.underlying23 (by kernel_rfl) (fun n cs' y hy => by
    obtain ⟨z, hz, hg⟩ := op_Track hy
    exact ⟨z, by simp only [GTrack.t, T.rd]; exact hz, hg⟩) h
theorem op_Node {H : Type} {enc : TypeId × Value → H} {W : World} {base : Nat} {spare : Nat → Bool} {held : Bool} {fuel : Nat} {cs : List Value} {x : DataW H × List MemPlace} (h : DataW.trod enc Tryz.prog W base spare held fuel 245 cs = some x) : ∃ g : GNode, T.rds W g.fs cs ∧ g.good := by
  obtain ⟨ys, k, _, _, hcl, hyl, hf⟩ := DataW.trod_struct Tryz.underlying245 h
  have hl4 : cs.length = 4 := hcl.trans (by kernel_rfl)
  obtain ⟨c0, cs0, rfl, hl3⟩ := len_of 3 _ hl4
  obtain ⟨c1, cs1, rfl, hl2⟩ := len_of 2 _ hl3
  obtain ⟨c2, cs2, rfl, hl1⟩ := len_of 1 _ hl2
  obtain ⟨c3, cs3, rfl, hl0⟩ := len_of 0 _ hl1
  obtain rfl : cs3 = [] := List.eq_nil_of_length_eq_zero hl0
  have hyn : ys.length = 4 := hyl
  have z0 : Tryz.prog.cellsOf 24 = 1 := by kernel_rfl
  have z1 : Tryz.prog.cellsOf 2 = 1 := by kernel_rfl
  have g0 : DataW.trod enc Tryz.prog W base spare held k 2 (List.take (Tryz.prog.cellsOf 2) (List.drop 0 [c0, c1, c2, c3])) = ys[0]? := hf 0 _ rfl
  rw [z1, List.getElem?_eq_getElem (by omega)] at g0
  replace g0 : DataW.trod enc Tryz.prog W base spare held k 2 [c0] = some _ := g0
  obtain ⟨n0, e0, w0⟩ := op_n g0
  have g1 : DataW.trod enc Tryz.prog W base spare held k 2 (List.take (Tryz.prog.cellsOf 2) (List.drop 1 [c0, c1, c2, c3])) = ys[1]? := hf 1 _ rfl
  rw [z1, List.getElem?_eq_getElem (by omega)] at g1
  replace g1 : DataW.trod enc Tryz.prog W base spare held k 2 [c1] = some _ := g1
  obtain ⟨n1, e1, w1⟩ := op_n g1
  have g2 : DataW.trod enc Tryz.prog W base spare held k 2 (List.take (Tryz.prog.cellsOf 2) (List.drop 2 [c0, c1, c2, c3])) = ys[2]? := hf 2 _ rfl
  rw [z1, List.getElem?_eq_getElem (by omega)] at g2
  replace g2 : DataW.trod enc Tryz.prog W base spare held k 2 [c2] = some _ := g2
  obtain ⟨n2, e2, w2⟩ := op_n g2
  have g3 : DataW.trod enc Tryz.prog W base spare held k 24 (List.take (Tryz.prog.cellsOf 24) (List.drop 3 [c0, c1, c2, c3])) = ys[3]? := hf 3 _ rfl
  rw [z0, List.getElem?_eq_getElem (by omega)] at g3
  replace g3 : DataW.trod enc Tryz.prog W base spare held k 24 [c3] = some _ := g3
  obtain ⟨v3, n3, e3, r3, w3⟩ := op_LI g3
  obtain rfl : c0 = _ := (List.cons.inj e0).1
  obtain rfl : c1 = _ := (List.cons.inj e1).1
  obtain rfl : c2 = _ := (List.cons.inj e2).1
  obtain rfl : c3 = v3 := (List.cons.inj e3).1
  refine ⟨⟨n0, n1, n2, n3⟩, ?_, ⟨w0, w1, w2, w3⟩⟩
  unfold GNode.fs
  exact T.c_rn (T.c_rn (T.c_rn (T.c_rl r3 (T.c_re))))
theorem op_LNode {H : Type} {enc : TypeId × Value → H} {W : World} {base : Nat} {spare : Nat → Bool} {held : Bool} {fuel : Nat} {cs : List Value} {x : DataW H × List MemPlace} (h : DataW.trod enc Tryz.prog W base spare held fuel 123 cs = some x) : ∃ (v : Value) (xs : List GNode), cs = [v] ∧ T.rd W (T.sl 207 4 (xs.map GNode.t)) [v] ∧ ∀ y ∈ xs, GNode.good y :=
  rdT_open 207 GNode.t GNode.good GNode.wide_t (by omega) ⟨0, 0, 0, []⟩ Tryz.underlying123 (by kernel_rfl) (fun n cs' y hy => by
    obtain ⟨z, hz, hg⟩ := op_Node hy
    exact ⟨z, by simp only [GNode.t, T.rd]; exact hz, hg⟩) h
theorem op_Patch {H : Type} {enc : TypeId × Value → H} {W : World} {base : Nat} {spare : Nat → Bool} {held : Bool} {fuel : Nat} {cs : List Value} {x : DataW H × List MemPlace} (h : DataW.trod enc Tryz.prog W base spare held fuel 125 cs = some x) : ∃ g : GPatch, T.rds W g.fs cs ∧ g.good := by
  obtain ⟨ys, k, _, _, hcl, hyl, hf⟩ := DataW.trod_struct Tryz.underlying125 h
  have hl4 : cs.length = 4 := hcl.trans (by kernel_rfl)
  obtain ⟨c0, cs0, rfl, hl3⟩ := len_of 3 _ hl4
  obtain ⟨c1, cs1, rfl, hl2⟩ := len_of 2 _ hl3
  obtain ⟨c2, cs2, rfl, hl1⟩ := len_of 1 _ hl2
  obtain ⟨c3, cs3, rfl, hl0⟩ := len_of 0 _ hl1
  obtain rfl : cs3 = [] := List.eq_nil_of_length_eq_zero hl0
  have hyn : ys.length = 4 := hyl
  have z0 : Tryz.prog.cellsOf 22 = 1 := by kernel_rfl
  have z1 : Tryz.prog.cellsOf 24 = 1 := by kernel_rfl
  have z2 : Tryz.prog.cellsOf 123 = 1 := by kernel_rfl
  have z3 : Tryz.prog.cellsOf 2 = 1 := by kernel_rfl
  have g0 : DataW.trod enc Tryz.prog W base spare held k 2 (List.take (Tryz.prog.cellsOf 2) (List.drop 0 [c0, c1, c2, c3])) = ys[0]? := hf 0 _ rfl
  rw [z3, List.getElem?_eq_getElem (by omega)] at g0
  replace g0 : DataW.trod enc Tryz.prog W base spare held k 2 [c0] = some _ := g0
  obtain ⟨n0, e0, w0⟩ := op_n g0
  have g1 : DataW.trod enc Tryz.prog W base spare held k 22 (List.take (Tryz.prog.cellsOf 22) (List.drop 1 [c0, c1, c2, c3])) = ys[1]? := hf 1 _ rfl
  rw [z0, List.getElem?_eq_getElem (by omega)] at g1
  replace g1 : DataW.trod enc Tryz.prog W base spare held k 22 [c1] = some _ := g1
  obtain ⟨v1, n1, e1, r1, w1⟩ := op_LL g1
  have g2 : DataW.trod enc Tryz.prog W base spare held k 123 (List.take (Tryz.prog.cellsOf 123) (List.drop 2 [c0, c1, c2, c3])) = ys[2]? := hf 2 _ rfl
  rw [z2, List.getElem?_eq_getElem (by omega)] at g2
  replace g2 : DataW.trod enc Tryz.prog W base spare held k 123 [c2] = some _ := g2
  obtain ⟨v2, n2, e2, r2, w2⟩ := op_LNode g2
  have g3 : DataW.trod enc Tryz.prog W base spare held k 24 (List.take (Tryz.prog.cellsOf 24) (List.drop 3 [c0, c1, c2, c3])) = ys[3]? := hf 3 _ rfl
  rw [z1, List.getElem?_eq_getElem (by omega)] at g3
  replace g3 : DataW.trod enc Tryz.prog W base spare held k 24 [c3] = some _ := g3
  obtain ⟨v3, n3, e3, r3, w3⟩ := op_LI g3
  obtain rfl : c0 = _ := (List.cons.inj e0).1
  obtain rfl : c1 = v1 := (List.cons.inj e1).1
  obtain rfl : c2 = v2 := (List.cons.inj e2).1
  obtain rfl : c3 = v3 := (List.cons.inj e3).1
  refine ⟨⟨n0, n1, n2, n3⟩, ?_, ⟨w0, w1, w2, w3⟩⟩
  unfold GPatch.fs
  exact T.c_rn (T.c_rl r1 (T.c_rl r2 (T.c_rl r3 (T.c_re))))
theorem op_LPatch {H : Type} {enc : TypeId × Value → H} {W : World} {base : Nat} {spare : Nat → Bool} {held : Bool} {fuel : Nat} {cs : List Value} {x : DataW H × List MemPlace} (h : DataW.trod enc Tryz.prog W base spare held fuel 25 cs = some x) : ∃ (v : Value) (xs : List GPatch), cs = [v] ∧ T.rd W (T.sl 136 4 (xs.map GPatch.t)) [v] ∧ ∀ y ∈ xs, GPatch.good y :=
  rdT_open 136 GPatch.t GPatch.good GPatch.wide_t (by omega) ⟨0, [], [], []⟩ Tryz.underlying25 (by kernel_rfl) (fun n cs' y hy => by
    obtain ⟨z, hz, hg⟩ := op_Patch hy
    exact ⟨z, by simp only [GPatch.t, T.rd]; exact hz, hg⟩) h
theorem op_Send {H : Type} {enc : TypeId × Value → H} {W : World} {base : Nat} {spare : Nat → Bool} {held : Bool} {fuel : Nat} {cs : List Value} {x : DataW H × List MemPlace} (h : DataW.trod enc Tryz.prog W base spare held fuel 295 cs = some x) : ∃ g : GSend, T.rds W g.fs cs ∧ g.good := by
  obtain ⟨ys, k, _, _, hcl, hyl, hf⟩ := DataW.trod_struct Tryz.underlying295 h
  have hl2 : cs.length = 2 := hcl.trans (by kernel_rfl)
  obtain ⟨c0, cs0, rfl, hl1⟩ := len_of 1 _ hl2
  obtain ⟨c1, cs1, rfl, hl0⟩ := len_of 0 _ hl1
  obtain rfl : cs1 = [] := List.eq_nil_of_length_eq_zero hl0
  have hyn : ys.length = 2 := hyl
  have z0 : Tryz.prog.cellsOf 2 = 1 := by kernel_rfl
  have g0 : DataW.trod enc Tryz.prog W base spare held k 2 (List.take (Tryz.prog.cellsOf 2) (List.drop 0 [c0, c1])) = ys[0]? := hf 0 _ rfl
  rw [z0, List.getElem?_eq_getElem (by omega)] at g0
  replace g0 : DataW.trod enc Tryz.prog W base spare held k 2 [c0] = some _ := g0
  obtain ⟨n0, e0, w0⟩ := op_n g0
  have g1 : DataW.trod enc Tryz.prog W base spare held k 2 (List.take (Tryz.prog.cellsOf 2) (List.drop 1 [c0, c1])) = ys[1]? := hf 1 _ rfl
  rw [z0, List.getElem?_eq_getElem (by omega)] at g1
  replace g1 : DataW.trod enc Tryz.prog W base spare held k 2 [c1] = some _ := g1
  obtain ⟨n1, e1, w1⟩ := op_n g1
  obtain rfl : c0 = _ := (List.cons.inj e0).1
  obtain rfl : c1 = _ := (List.cons.inj e1).1
  refine ⟨⟨n0, n1⟩, ?_, ⟨w0, w1⟩⟩
  unfold GSend.fs
  exact T.c_rn (T.c_rn (T.c_re))
theorem op_LSend {H : Type} {enc : TypeId × Value → H} {W : World} {base : Nat} {spare : Nat → Bool} {held : Bool} {fuel : Nat} {cs : List Value} {x : DataW H × List MemPlace} (h : DataW.trod enc Tryz.prog W base spare held fuel 193 cs = some x) : ∃ (v : Value) (xs : List GSend), cs = [v] ∧ T.rd W (T.sl 203 2 (xs.map GSend.t)) [v] ∧ ∀ y ∈ xs, GSend.good y :=
  rdT_open 203 GSend.t GSend.good GSend.wide_t (by omega) ⟨0, 0⟩ Tryz.underlying193 (by kernel_rfl) (fun n cs' y hy => by
    obtain ⟨z, hz, hg⟩ := op_Send hy
    exact ⟨z, by simp only [GSend.t, T.rd]; exact hz, hg⟩) h
theorem op_Strip {H : Type} {enc : TypeId × Value → H} {W : World} {base : Nat} {spare : Nat → Bool} {held : Bool} {fuel : Nat} {cs : List Value} {x : DataW H × List MemPlace} (h : DataW.trod enc Tryz.prog W base spare held fuel 195 cs = some x) : ∃ g : GStrip, T.rds W g.fs cs ∧ g.good := by
  obtain ⟨ys, k, _, _, hcl, hyl, hf⟩ := DataW.trod_struct Tryz.underlying195 h
  have hl3 : cs.length = 3 := hcl.trans (by kernel_rfl)
  obtain ⟨c0, cs0, rfl, hl2⟩ := len_of 2 _ hl3
  obtain ⟨c1, cs1, rfl, hl1⟩ := len_of 1 _ hl2
  obtain ⟨c2, cs2, rfl, hl0⟩ := len_of 0 _ hl1
  obtain rfl : cs2 = [] := List.eq_nil_of_length_eq_zero hl0
  have hyn : ys.length = 3 := hyl
  have z0 : Tryz.prog.cellsOf 193 = 1 := by kernel_rfl
  have z1 : Tryz.prog.cellsOf 2 = 1 := by kernel_rfl
  have z2 : Tryz.prog.cellsOf 9 = 1 := by kernel_rfl
  have g0 : DataW.trod enc Tryz.prog W base spare held k 9 (List.take (Tryz.prog.cellsOf 9) (List.drop 0 [c0, c1, c2])) = ys[0]? := hf 0 _ rfl
  rw [z2, List.getElem?_eq_getElem (by omega)] at g0
  replace g0 : DataW.trod enc Tryz.prog W base spare held k 9 [c0] = some _ := g0
  obtain ⟨n0, e0, w0⟩ := op_s g0
  have g1 : DataW.trod enc Tryz.prog W base spare held k 2 (List.take (Tryz.prog.cellsOf 2) (List.drop 1 [c0, c1, c2])) = ys[1]? := hf 1 _ rfl
  rw [z1, List.getElem?_eq_getElem (by omega)] at g1
  replace g1 : DataW.trod enc Tryz.prog W base spare held k 2 [c1] = some _ := g1
  obtain ⟨n1, e1, w1⟩ := op_n g1
  have g2 : DataW.trod enc Tryz.prog W base spare held k 193 (List.take (Tryz.prog.cellsOf 193) (List.drop 2 [c0, c1, c2])) = ys[2]? := hf 2 _ rfl
  rw [z0, List.getElem?_eq_getElem (by omega)] at g2
  replace g2 : DataW.trod enc Tryz.prog W base spare held k 193 [c2] = some _ := g2
  obtain ⟨v2, n2, e2, r2, w2⟩ := op_LSend g2
  obtain rfl : c0 = _ := (List.cons.inj e0).1
  obtain rfl : c1 = _ := (List.cons.inj e1).1
  obtain rfl : c2 = v2 := (List.cons.inj e2).1
  refine ⟨⟨n0, n1, n2⟩, ?_, ⟨w0, w1, w2⟩⟩
  unfold GStrip.fs
  exact T.c_rs (T.c_rn (T.c_rl r2 (T.c_re)))
theorem op_LStrip {H : Type} {enc : TypeId × Value → H} {W : World} {base : Nat} {spare : Nat → Bool} {held : Bool} {fuel : Nat} {cs : List Value} {x : DataW H × List MemPlace} (h : DataW.trod enc Tryz.prog W base spare held fuel 26 cs = some x) : ∃ (v : Value) (xs : List GStrip), cs = [v] ∧ T.rd W (T.sl 153 3 (xs.map GStrip.t)) [v] ∧ ∀ y ∈ xs, GStrip.good y :=
  rdT_open 153 GStrip.t GStrip.good GStrip.wide_t (by omega) ⟨ByteArray.empty, 0, []⟩ Tryz.underlying26 (by kernel_rfl) (fun n cs' y hy => by
    obtain ⟨z, hz, hg⟩ := op_Strip hy
    exact ⟨z, by simp only [GStrip.t, T.rd]; exact hz, hg⟩) h
theorem op_Mixer {H : Type} {enc : TypeId × Value → H} {W : World} {base : Nat} {spare : Nat → Bool} {held : Bool} {fuel : Nat} {cs : List Value} {x : DataW H × List MemPlace} (h : DataW.trod enc Tryz.prog W base spare held fuel 28 cs = some x) : ∃ g : GMixer, T.rds W g.fs cs ∧ g.good := by
  obtain ⟨ys, k, _, _, hcl, hyl, hf⟩ := DataW.trod_struct Tryz.underlying28 h
  have hl1 : cs.length = 1 := hcl.trans (by kernel_rfl)
  obtain ⟨c0, cs0, rfl, hl0⟩ := len_of 0 _ hl1
  obtain rfl : cs0 = [] := List.eq_nil_of_length_eq_zero hl0
  have hyn : ys.length = 1 := hyl
  have z0 : Tryz.prog.cellsOf 26 = 1 := by kernel_rfl
  have g0 : DataW.trod enc Tryz.prog W base spare held k 26 (List.take (Tryz.prog.cellsOf 26) (List.drop 0 [c0])) = ys[0]? := hf 0 _ rfl
  rw [z0, List.getElem?_eq_getElem (by omega)] at g0
  replace g0 : DataW.trod enc Tryz.prog W base spare held k 26 [c0] = some _ := g0
  obtain ⟨v0, n0, e0, r0, w0⟩ := op_LStrip g0
  obtain rfl : c0 = v0 := (List.cons.inj e0).1
  refine ⟨⟨n0⟩, ?_, w0⟩
  unfold GMixer.fs
  exact T.c_rl r0 (T.c_re)
theorem op_Session {H : Type} {enc : TypeId × Value → H} {W : World} {base : Nat} {spare : Nat → Bool} {held : Bool} {fuel : Nat} {cs : List Value} {x : DataW H × List MemPlace} (h : DataW.trod enc Tryz.prog W base spare held fuel 30 cs = some x) : ∃ g : GSession, T.rds W g.fs cs ∧ g.good := by
  obtain ⟨ys, k, _, _, hcl, hyl, hf⟩ := DataW.trod_struct Tryz.underlying30 h
  have hl6 : cs.length = 6 := hcl.trans (by kernel_rfl)
  obtain ⟨c0, cs0, rfl, hl5⟩ := len_of 5 _ hl6
  obtain ⟨c1, cs1, rfl, hl4⟩ := len_of 4 _ hl5
  obtain ⟨c2, cs2, rfl, hl3⟩ := len_of 3 _ hl4
  obtain ⟨c3, cs3, rfl, hl2⟩ := len_of 2 _ hl3
  obtain ⟨c4, cs4, rfl, hl1⟩ := len_of 1 _ hl2
  obtain ⟨c5, cs5, rfl, hl0⟩ := len_of 0 _ hl1
  obtain rfl : cs5 = [] := List.eq_nil_of_length_eq_zero hl0
  have hyn : ys.length = 6 := hyl
  have z0 : Tryz.prog.cellsOf 22 = 1 := by kernel_rfl
  have z1 : Tryz.prog.cellsOf 24 = 1 := by kernel_rfl
  have z2 : Tryz.prog.cellsOf 25 = 1 := by kernel_rfl
  have z3 : Tryz.prog.cellsOf 23 = 1 := by kernel_rfl
  have z4 : Tryz.prog.cellsOf 2 = 1 := by kernel_rfl
  have z5 : Tryz.prog.cellsOf 28 = 1 := by kernel_rfl
  have g0 : DataW.trod enc Tryz.prog W base spare held k 2 (List.take (Tryz.prog.cellsOf 2) (List.drop 0 [c0, c1, c2, c3, c4, c5])) = ys[0]? := hf 0 _ rfl
  rw [z4, List.getElem?_eq_getElem (by omega)] at g0
  replace g0 : DataW.trod enc Tryz.prog W base spare held k 2 [c0] = some _ := g0
  obtain ⟨n0, e0, w0⟩ := op_n g0
  have g1 : DataW.trod enc Tryz.prog W base spare held k 22 (List.take (Tryz.prog.cellsOf 22) (List.drop 1 [c0, c1, c2, c3, c4, c5])) = ys[1]? := hf 1 _ rfl
  rw [z0, List.getElem?_eq_getElem (by omega)] at g1
  replace g1 : DataW.trod enc Tryz.prog W base spare held k 22 [c1] = some _ := g1
  obtain ⟨v1, n1, e1, r1, w1⟩ := op_LL g1
  have g2 : DataW.trod enc Tryz.prog W base spare held k 23 (List.take (Tryz.prog.cellsOf 23) (List.drop 2 [c0, c1, c2, c3, c4, c5])) = ys[2]? := hf 2 _ rfl
  rw [z3, List.getElem?_eq_getElem (by omega)] at g2
  replace g2 : DataW.trod enc Tryz.prog W base spare held k 23 [c2] = some _ := g2
  obtain ⟨v2, n2, e2, r2, w2⟩ := op_LTrack g2
  have g3 : DataW.trod enc Tryz.prog W base spare held k 24 (List.take (Tryz.prog.cellsOf 24) (List.drop 3 [c0, c1, c2, c3, c4, c5])) = ys[3]? := hf 3 _ rfl
  rw [z1, List.getElem?_eq_getElem (by omega)] at g3
  replace g3 : DataW.trod enc Tryz.prog W base spare held k 24 [c3] = some _ := g3
  obtain ⟨v3, n3, e3, r3, w3⟩ := op_LI g3
  have g4 : DataW.trod enc Tryz.prog W base spare held k 25 (List.take (Tryz.prog.cellsOf 25) (List.drop 4 [c0, c1, c2, c3, c4, c5])) = ys[4]? := hf 4 _ rfl
  rw [z2, List.getElem?_eq_getElem (by omega)] at g4
  replace g4 : DataW.trod enc Tryz.prog W base spare held k 25 [c4] = some _ := g4
  obtain ⟨v4, n4, e4, r4, w4⟩ := op_LPatch g4
  have g5 : DataW.trod enc Tryz.prog W base spare held k 28 (List.take (Tryz.prog.cellsOf 28) (List.drop 5 [c0, c1, c2, c3, c4, c5])) = ys[5]? := hf 5 _ rfl
  rw [z5, List.getElem?_eq_getElem (by omega)] at g5
  replace g5 : DataW.trod enc Tryz.prog W base spare held k 28 [c5] = some _ := g5
  obtain ⟨n5, r5, w5⟩ := op_Mixer g5
  obtain rfl : c0 = _ := (List.cons.inj e0).1
  obtain rfl : c1 = v1 := (List.cons.inj e1).1
  obtain rfl : c2 = v2 := (List.cons.inj e2).1
  obtain rfl : c3 = v3 := (List.cons.inj e3).1
  obtain rfl : c4 = v4 := (List.cons.inj e4).1
  refine ⟨⟨n0, n1, n2, n3, n4, n5⟩, ?_, ⟨w0, w1, w2, w3, w4, w5⟩⟩
  obtain ⟨s5_0, he5, sr5_0⟩ := GMixer.rd_open r5
  simp only [List.cons.injEq, and_true] at he5
  subst he5
  unfold GSession.fs
  exact T.c_rn (T.c_rl r1 (T.c_rl r2 (T.c_rl r3 (T.c_rl r4 (T.c_rl sr5_0 (T.c_re))))))
theorem op_Frac {H : Type} {enc : TypeId × Value → H} {W : World} {base : Nat} {spare : Nat → Bool} {held : Bool} {fuel : Nat} {cs : List Value} {x : DataW H × List MemPlace} (h : DataW.trod enc Tryz.prog W base spare held fuel 50 cs = some x) : ∃ g : GFrac, T.rds W g.fs cs ∧ g.good := by
  obtain ⟨ys, k, _, _, hcl, hyl, hf⟩ := DataW.trod_struct Tryz.underlying50 h
  have hl2 : cs.length = 2 := hcl.trans (by kernel_rfl)
  obtain ⟨c0, cs0, rfl, hl1⟩ := len_of 1 _ hl2
  obtain ⟨c1, cs1, rfl, hl0⟩ := len_of 0 _ hl1
  obtain rfl : cs1 = [] := List.eq_nil_of_length_eq_zero hl0
  have hyn : ys.length = 2 := hyl
  have z0 : Tryz.prog.cellsOf 2 = 1 := by kernel_rfl
  have g0 : DataW.trod enc Tryz.prog W base spare held k 2 (List.take (Tryz.prog.cellsOf 2) (List.drop 0 [c0, c1])) = ys[0]? := hf 0 _ rfl
  rw [z0, List.getElem?_eq_getElem (by omega)] at g0
  replace g0 : DataW.trod enc Tryz.prog W base spare held k 2 [c0] = some _ := g0
  obtain ⟨n0, e0, w0⟩ := op_n g0
  have g1 : DataW.trod enc Tryz.prog W base spare held k 2 (List.take (Tryz.prog.cellsOf 2) (List.drop 1 [c0, c1])) = ys[1]? := hf 1 _ rfl
  rw [z0, List.getElem?_eq_getElem (by omega)] at g1
  replace g1 : DataW.trod enc Tryz.prog W base spare held k 2 [c1] = some _ := g1
  obtain ⟨n1, e1, w1⟩ := op_n g1
  obtain rfl : c0 = _ := (List.cons.inj e0).1
  obtain rfl : c1 = _ := (List.cons.inj e1).1
  refine ⟨⟨n0, n1⟩, ?_, ⟨w0, w1⟩⟩
  unfold GFrac.fs
  exact T.c_rn (T.c_rn (T.c_re))
theorem op_Note {H : Type} {enc : TypeId × Value → H} {W : World} {base : Nat} {spare : Nat → Bool} {held : Bool} {fuel : Nat} {cs : List Value} {x : DataW H × List MemPlace} (h : DataW.trod enc Tryz.prog W base spare held fuel 232 cs = some x) : ∃ g : GNote, T.rds W g.fs cs ∧ g.good := by
  obtain ⟨ys, k, _, _, hcl, hyl, hf⟩ := DataW.trod_struct Tryz.underlying232 h
  have hl7 : cs.length = 7 := hcl.trans (by kernel_rfl)
  obtain ⟨c0, cs0, rfl, hl6⟩ := len_of 6 _ hl7
  obtain ⟨c1, cs1, rfl, hl5⟩ := len_of 5 _ hl6
  obtain ⟨c2, cs2, rfl, hl4⟩ := len_of 4 _ hl5
  obtain ⟨c3, cs3, rfl, hl3⟩ := len_of 3 _ hl4
  obtain ⟨c4, cs4, rfl, hl2⟩ := len_of 2 _ hl3
  obtain ⟨c5, cs5, rfl, hl1⟩ := len_of 1 _ hl2
  obtain ⟨c6, cs6, rfl, hl0⟩ := len_of 0 _ hl1
  obtain rfl : cs6 = [] := List.eq_nil_of_length_eq_zero hl0
  have hyn : ys.length = 5 := hyl
  have z0 : Tryz.prog.cellsOf 2 = 1 := by kernel_rfl
  have z1 : Tryz.prog.cellsOf 50 = 2 := by kernel_rfl
  have g0 : DataW.trod enc Tryz.prog W base spare held k 50 (List.take (Tryz.prog.cellsOf 50) (List.drop 0 [c0, c1, c2, c3, c4, c5, c6])) = ys[0]? := hf 0 _ rfl
  rw [z1, List.getElem?_eq_getElem (by omega)] at g0
  replace g0 : DataW.trod enc Tryz.prog W base spare held k 50 [c0, c1] = some _ := g0
  obtain ⟨n0, r0, w0⟩ := op_Frac g0
  have g1 : DataW.trod enc Tryz.prog W base spare held k 50 (List.take (Tryz.prog.cellsOf 50) (List.drop 2 [c0, c1, c2, c3, c4, c5, c6])) = ys[1]? := hf 1 _ rfl
  rw [z1, List.getElem?_eq_getElem (by omega)] at g1
  replace g1 : DataW.trod enc Tryz.prog W base spare held k 50 [c2, c3] = some _ := g1
  obtain ⟨n1, r1, w1⟩ := op_Frac g1
  have g2 : DataW.trod enc Tryz.prog W base spare held k 2 (List.take (Tryz.prog.cellsOf 2) (List.drop 4 [c0, c1, c2, c3, c4, c5, c6])) = ys[2]? := hf 2 _ rfl
  rw [z0, List.getElem?_eq_getElem (by omega)] at g2
  replace g2 : DataW.trod enc Tryz.prog W base spare held k 2 [c4] = some _ := g2
  obtain ⟨n2, e2, w2⟩ := op_n g2
  have g3 : DataW.trod enc Tryz.prog W base spare held k 2 (List.take (Tryz.prog.cellsOf 2) (List.drop 5 [c0, c1, c2, c3, c4, c5, c6])) = ys[3]? := hf 3 _ rfl
  rw [z0, List.getElem?_eq_getElem (by omega)] at g3
  replace g3 : DataW.trod enc Tryz.prog W base spare held k 2 [c5] = some _ := g3
  obtain ⟨n3, e3, w3⟩ := op_n g3
  have g4 : DataW.trod enc Tryz.prog W base spare held k 2 (List.take (Tryz.prog.cellsOf 2) (List.drop 6 [c0, c1, c2, c3, c4, c5, c6])) = ys[4]? := hf 4 _ rfl
  rw [z0, List.getElem?_eq_getElem (by omega)] at g4
  replace g4 : DataW.trod enc Tryz.prog W base spare held k 2 [c6] = some _ := g4
  obtain ⟨n4, e4, w4⟩ := op_n g4
  obtain rfl : c4 = _ := (List.cons.inj e2).1
  obtain rfl : c5 = _ := (List.cons.inj e3).1
  obtain rfl : c6 = _ := (List.cons.inj e4).1
  refine ⟨⟨n0, n1, n2, n3, n4⟩, ?_, ⟨w0.1, w0.2, w1.1, w1.2, w2, w3, w4⟩⟩
  have he0 := GFrac.rd_open r0
  simp only [List.cons.injEq, and_true] at he0
  obtain ⟨rfl, rfl⟩ := he0
  have he1 := GFrac.rd_open r1
  simp only [List.cons.injEq, and_true] at he1
  obtain ⟨rfl, rfl⟩ := he1
  unfold GNote.fs
  exact T.c_rn (T.c_rn (T.c_rn (T.c_rn (T.c_rn (T.c_rn (T.c_rn (T.c_re)))))))
theorem op_LNote {H : Type} {enc : TypeId × Value → H} {W : World} {base : Nat} {spare : Nat → Bool} {held : Bool} {fuel : Nat} {cs : List Value} {x : DataW H × List MemPlace} (h : DataW.trod enc Tryz.prog W base spare held fuel 43 cs = some x) : ∃ (v : Value) (xs : List GNote), cs = [v] ∧ T.rd W (T.sl 104 7 (xs.map GNote.t)) [v] ∧ ∀ y ∈ xs, GNote.good y :=
  rdT_open 104 GNote.t GNote.good GNote.wide_t (by omega) ⟨⟨0, 0⟩, ⟨0, 0⟩, 0, 0, 0⟩ Tryz.underlying43 (by kernel_rfl) (fun n cs' y hy => by
    obtain ⟨z, hz, hg⟩ := op_Note hy
    exact ⟨z, by simp only [GNote.t, T.rd]; exact hz, hg⟩) h
theorem op_Score {H : Type} {enc : TypeId × Value → H} {W : World} {base : Nat} {spare : Nat → Bool} {held : Bool} {fuel : Nat} {cs : List Value} {x : DataW H × List MemPlace} (h : DataW.trod enc Tryz.prog W base spare held fuel 45 cs = some x) : ∃ g : GScore, T.rds W g.fs cs ∧ g.good := by
  obtain ⟨ys, k, _, _, hcl, hyl, hf⟩ := DataW.trod_struct Tryz.underlying45 h
  have hl1 : cs.length = 1 := hcl.trans (by kernel_rfl)
  obtain ⟨c0, cs0, rfl, hl0⟩ := len_of 0 _ hl1
  obtain rfl : cs0 = [] := List.eq_nil_of_length_eq_zero hl0
  have hyn : ys.length = 1 := hyl
  have z0 : Tryz.prog.cellsOf 43 = 1 := by kernel_rfl
  have g0 : DataW.trod enc Tryz.prog W base spare held k 43 (List.take (Tryz.prog.cellsOf 43) (List.drop 0 [c0])) = ys[0]? := hf 0 _ rfl
  rw [z0, List.getElem?_eq_getElem (by omega)] at g0
  replace g0 : DataW.trod enc Tryz.prog W base spare held k 43 [c0] = some _ := g0
  obtain ⟨v0, n0, e0, r0, w0⟩ := op_LNote g0
  obtain rfl : c0 = v0 := (List.cons.inj e0).1
  refine ⟨⟨n0⟩, ?_, w0⟩
  unfold GScore.fs
  exact T.c_rl r0 (T.c_re)
theorem op_Tempo {H : Type} {enc : TypeId × Value → H} {W : World} {base : Nat} {spare : Nat → Bool} {held : Bool} {fuel : Nat} {cs : List Value} {x : DataW H × List MemPlace} (h : DataW.trod enc Tryz.prog W base spare held fuel 235 cs = some x) : ∃ g : GTempo, T.rds W g.fs cs ∧ g.good := by
  obtain ⟨ys, k, _, _, hcl, hyl, hf⟩ := DataW.trod_struct Tryz.underlying235 h
  have hl3 : cs.length = 3 := hcl.trans (by kernel_rfl)
  obtain ⟨c0, cs0, rfl, hl2⟩ := len_of 2 _ hl3
  obtain ⟨c1, cs1, rfl, hl1⟩ := len_of 1 _ hl2
  obtain ⟨c2, cs2, rfl, hl0⟩ := len_of 0 _ hl1
  obtain rfl : cs2 = [] := List.eq_nil_of_length_eq_zero hl0
  have hyn : ys.length = 2 := hyl
  have z0 : Tryz.prog.cellsOf 2 = 1 := by kernel_rfl
  have z1 : Tryz.prog.cellsOf 50 = 2 := by kernel_rfl
  have g0 : DataW.trod enc Tryz.prog W base spare held k 50 (List.take (Tryz.prog.cellsOf 50) (List.drop 0 [c0, c1, c2])) = ys[0]? := hf 0 _ rfl
  rw [z1, List.getElem?_eq_getElem (by omega)] at g0
  replace g0 : DataW.trod enc Tryz.prog W base spare held k 50 [c0, c1] = some _ := g0
  obtain ⟨n0, r0, w0⟩ := op_Frac g0
  have g1 : DataW.trod enc Tryz.prog W base spare held k 2 (List.take (Tryz.prog.cellsOf 2) (List.drop 2 [c0, c1, c2])) = ys[1]? := hf 1 _ rfl
  rw [z0, List.getElem?_eq_getElem (by omega)] at g1
  replace g1 : DataW.trod enc Tryz.prog W base spare held k 2 [c2] = some _ := g1
  obtain ⟨n1, e1, w1⟩ := op_n g1
  obtain rfl : c2 = _ := (List.cons.inj e1).1
  refine ⟨⟨n0, n1⟩, ?_, ⟨w0.1, w0.2, w1⟩⟩
  have he0 := GFrac.rd_open r0
  simp only [List.cons.injEq, and_true] at he0
  obtain ⟨rfl, rfl⟩ := he0
  unfold GTempo.fs
  exact T.c_rn (T.c_rn (T.c_rn (T.c_re)))
theorem op_LTempo {H : Type} {enc : TypeId × Value → H} {W : World} {base : Nat} {spare : Nat → Bool} {held : Bool} {fuel : Nat} {cs : List Value} {x : DataW H × List MemPlace} (h : DataW.trod enc Tryz.prog W base spare held fuel 46 cs = some x) : ∃ (v : Value) (xs : List GTempo), cs = [v] ∧ T.rd W (T.sl 107 3 (xs.map GTempo.t)) [v] ∧ ∀ y ∈ xs, GTempo.good y :=
  rdT_open 107 GTempo.t GTempo.good GTempo.wide_t (by omega) ⟨⟨0, 0⟩, 0⟩ Tryz.underlying46 (by kernel_rfl) (fun n cs' y hy => by
    obtain ⟨z, hz, hg⟩ := op_Tempo hy
    exact ⟨z, by simp only [GTempo.t, T.rd]; exact hz, hg⟩) h
theorem op_TempoMap {H : Type} {enc : TypeId × Value → H} {W : World} {base : Nat} {spare : Nat → Bool} {held : Bool} {fuel : Nat} {cs : List Value} {x : DataW H × List MemPlace} (h : DataW.trod enc Tryz.prog W base spare held fuel 48 cs = some x) : ∃ g : GTempoMap, T.rds W g.fs cs ∧ g.good := by
  obtain ⟨ys, k, _, _, hcl, hyl, hf⟩ := DataW.trod_struct Tryz.underlying48 h
  have hl1 : cs.length = 1 := hcl.trans (by kernel_rfl)
  obtain ⟨c0, cs0, rfl, hl0⟩ := len_of 0 _ hl1
  obtain rfl : cs0 = [] := List.eq_nil_of_length_eq_zero hl0
  have hyn : ys.length = 1 := hyl
  have z0 : Tryz.prog.cellsOf 46 = 1 := by kernel_rfl
  have g0 : DataW.trod enc Tryz.prog W base spare held k 46 (List.take (Tryz.prog.cellsOf 46) (List.drop 0 [c0])) = ys[0]? := hf 0 _ rfl
  rw [z0, List.getElem?_eq_getElem (by omega)] at g0
  replace g0 : DataW.trod enc Tryz.prog W base spare held k 46 [c0] = some _ := g0
  obtain ⟨v0, n0, e0, r0, w0⟩ := op_LTempo g0
  obtain rfl : c0 = v0 := (List.cons.inj e0).1
  refine ⟨⟨n0⟩, ?_, w0⟩
  unfold GTempoMap.fs
  exact T.c_rl r0 (T.c_re)
theorem op_LFrac {H : Type} {enc : TypeId × Value → H} {W : World} {base : Nat} {spare : Nat → Bool} {held : Bool} {fuel : Nat} {cs : List Value} {x : DataW H × List MemPlace} (h : DataW.trod enc Tryz.prog W base spare held fuel 51 cs = some x) : ∃ (v : Value) (xs : List GFrac), cs = [v] ∧ T.rd W (T.sl 64 2 (xs.map GFrac.t)) [v] ∧ ∀ y ∈ xs, GFrac.good y :=
  rdT_open 64 GFrac.t GFrac.good GFrac.wide_t (by omega) ⟨0, 0⟩ Tryz.underlying51 (by kernel_rfl) (fun n cs' y hy => by
    obtain ⟨z, hz, hg⟩ := op_Frac hy
    exact ⟨z, by simp only [GFrac.t, T.rd]; exact hz, hg⟩) h
theorem op_Tuning {H : Type} {enc : TypeId × Value → H} {W : World} {base : Nat} {spare : Nat → Bool} {held : Bool} {fuel : Nat} {cs : List Value} {x : DataW H × List MemPlace} (h : DataW.trod enc Tryz.prog W base spare held fuel 53 cs = some x) : ∃ g : GTuning, T.rds W g.fs cs ∧ g.good := by
  obtain ⟨ys, k, _, _, hcl, hyl, hf⟩ := DataW.trod_struct Tryz.underlying53 h
  have hl5 : cs.length = 5 := hcl.trans (by kernel_rfl)
  obtain ⟨c0, cs0, rfl, hl4⟩ := len_of 4 _ hl5
  obtain ⟨c1, cs1, rfl, hl3⟩ := len_of 3 _ hl4
  obtain ⟨c2, cs2, rfl, hl2⟩ := len_of 2 _ hl3
  obtain ⟨c3, cs3, rfl, hl1⟩ := len_of 1 _ hl2
  obtain ⟨c4, cs4, rfl, hl0⟩ := len_of 0 _ hl1
  obtain rfl : cs4 = [] := List.eq_nil_of_length_eq_zero hl0
  have hyn : ys.length = 3 := hyl
  have z0 : Tryz.prog.cellsOf 51 = 1 := by kernel_rfl
  have z1 : Tryz.prog.cellsOf 50 = 2 := by kernel_rfl
  have g0 : DataW.trod enc Tryz.prog W base spare held k 50 (List.take (Tryz.prog.cellsOf 50) (List.drop 0 [c0, c1, c2, c3, c4])) = ys[0]? := hf 0 _ rfl
  rw [z1, List.getElem?_eq_getElem (by omega)] at g0
  replace g0 : DataW.trod enc Tryz.prog W base spare held k 50 [c0, c1] = some _ := g0
  obtain ⟨n0, r0, w0⟩ := op_Frac g0
  have g1 : DataW.trod enc Tryz.prog W base spare held k 50 (List.take (Tryz.prog.cellsOf 50) (List.drop 2 [c0, c1, c2, c3, c4])) = ys[1]? := hf 1 _ rfl
  rw [z1, List.getElem?_eq_getElem (by omega)] at g1
  replace g1 : DataW.trod enc Tryz.prog W base spare held k 50 [c2, c3] = some _ := g1
  obtain ⟨n1, r1, w1⟩ := op_Frac g1
  have g2 : DataW.trod enc Tryz.prog W base spare held k 51 (List.take (Tryz.prog.cellsOf 51) (List.drop 4 [c0, c1, c2, c3, c4])) = ys[2]? := hf 2 _ rfl
  rw [z0, List.getElem?_eq_getElem (by omega)] at g2
  replace g2 : DataW.trod enc Tryz.prog W base spare held k 51 [c4] = some _ := g2
  obtain ⟨v2, n2, e2, r2, w2⟩ := op_LFrac g2
  obtain rfl : c4 = v2 := (List.cons.inj e2).1
  refine ⟨⟨n0, n1, n2⟩, ?_, ⟨w0.1, w0.2, w1.1, w1.2, w2⟩⟩
  have he0 := GFrac.rd_open r0
  simp only [List.cons.injEq, and_true] at he0
  obtain ⟨rfl, rfl⟩ := he0
  have he1 := GFrac.rd_open r1
  simp only [List.cons.injEq, and_true] at he1
  obtain ⟨rfl, rfl⟩ := he1
  unfold GTuning.fs
  exact T.c_rn (T.c_rn (T.c_rn (T.c_rn (T.c_rl r2 (T.c_re)))))
theorem op_Desk {H : Type} {enc : TypeId × Value → H} {W : World} {base : Nat} {spare : Nat → Bool} {held : Bool} {fuel : Nat} {cs : List Value} {x : DataW H × List MemPlace} (h : DataW.trod enc Tryz.prog W base spare held fuel 55 cs = some x) : ∃ g : GDesk, T.rds W g.fs cs ∧ g.good := by
  obtain ⟨ys, k, _, _, hcl, hyl, hf⟩ := DataW.trod_struct Tryz.underlying55 h
  have hl14 : cs.length = 14 := hcl.trans (by kernel_rfl)
  obtain ⟨c0, cs0, rfl, hl13⟩ := len_of 13 _ hl14
  obtain ⟨c1, cs1, rfl, hl12⟩ := len_of 12 _ hl13
  obtain ⟨c2, cs2, rfl, hl11⟩ := len_of 11 _ hl12
  obtain ⟨c3, cs3, rfl, hl10⟩ := len_of 10 _ hl11
  obtain ⟨c4, cs4, rfl, hl9⟩ := len_of 9 _ hl10
  obtain ⟨c5, cs5, rfl, hl8⟩ := len_of 8 _ hl9
  obtain ⟨c6, cs6, rfl, hl7⟩ := len_of 7 _ hl8
  obtain ⟨c7, cs7, rfl, hl6⟩ := len_of 6 _ hl7
  obtain ⟨c8, cs8, rfl, hl5⟩ := len_of 5 _ hl6
  obtain ⟨c9, cs9, rfl, hl4⟩ := len_of 4 _ hl5
  obtain ⟨c10, cs10, rfl, hl3⟩ := len_of 3 _ hl4
  obtain ⟨c11, cs11, rfl, hl2⟩ := len_of 2 _ hl3
  obtain ⟨c12, cs12, rfl, hl1⟩ := len_of 1 _ hl2
  obtain ⟨c13, cs13, rfl, hl0⟩ := len_of 0 _ hl1
  obtain rfl : cs13 = [] := List.eq_nil_of_length_eq_zero hl0
  have hyn : ys.length = 5 := hyl
  have z0 : Tryz.prog.cellsOf 24 = 1 := by kernel_rfl
  have z1 : Tryz.prog.cellsOf 45 = 1 := by kernel_rfl
  have z2 : Tryz.prog.cellsOf 30 = 6 := by kernel_rfl
  have z3 : Tryz.prog.cellsOf 48 = 1 := by kernel_rfl
  have z4 : Tryz.prog.cellsOf 53 = 5 := by kernel_rfl
  have g0 : DataW.trod enc Tryz.prog W base spare held k 45 (List.take (Tryz.prog.cellsOf 45) (List.drop 0 [c0, c1, c2, c3, c4, c5, c6, c7, c8, c9, c10, c11, c12, c13])) = ys[0]? := hf 0 _ rfl
  rw [z1, List.getElem?_eq_getElem (by omega)] at g0
  replace g0 : DataW.trod enc Tryz.prog W base spare held k 45 [c0] = some _ := g0
  obtain ⟨n0, r0, w0⟩ := op_Score g0
  have g1 : DataW.trod enc Tryz.prog W base spare held k 48 (List.take (Tryz.prog.cellsOf 48) (List.drop 1 [c0, c1, c2, c3, c4, c5, c6, c7, c8, c9, c10, c11, c12, c13])) = ys[1]? := hf 1 _ rfl
  rw [z3, List.getElem?_eq_getElem (by omega)] at g1
  replace g1 : DataW.trod enc Tryz.prog W base spare held k 48 [c1] = some _ := g1
  obtain ⟨n1, r1, w1⟩ := op_TempoMap g1
  have g2 : DataW.trod enc Tryz.prog W base spare held k 53 (List.take (Tryz.prog.cellsOf 53) (List.drop 2 [c0, c1, c2, c3, c4, c5, c6, c7, c8, c9, c10, c11, c12, c13])) = ys[2]? := hf 2 _ rfl
  rw [z4, List.getElem?_eq_getElem (by omega)] at g2
  replace g2 : DataW.trod enc Tryz.prog W base spare held k 53 [c2, c3, c4, c5, c6] = some _ := g2
  obtain ⟨n2, r2, w2⟩ := op_Tuning g2
  have g3 : DataW.trod enc Tryz.prog W base spare held k 24 (List.take (Tryz.prog.cellsOf 24) (List.drop 7 [c0, c1, c2, c3, c4, c5, c6, c7, c8, c9, c10, c11, c12, c13])) = ys[3]? := hf 3 _ rfl
  rw [z0, List.getElem?_eq_getElem (by omega)] at g3
  replace g3 : DataW.trod enc Tryz.prog W base spare held k 24 [c7] = some _ := g3
  obtain ⟨v3, n3, e3, r3, w3⟩ := op_LI g3
  have g4 : DataW.trod enc Tryz.prog W base spare held k 30 (List.take (Tryz.prog.cellsOf 30) (List.drop 8 [c0, c1, c2, c3, c4, c5, c6, c7, c8, c9, c10, c11, c12, c13])) = ys[4]? := hf 4 _ rfl
  rw [z2, List.getElem?_eq_getElem (by omega)] at g4
  replace g4 : DataW.trod enc Tryz.prog W base spare held k 30 [c8, c9, c10, c11, c12, c13] = some _ := g4
  obtain ⟨n4, r4, w4⟩ := op_Session g4
  obtain rfl : c7 = v3 := (List.cons.inj e3).1
  refine ⟨⟨n0, n1, n2, n3, n4⟩, ?_, ⟨w0, w1, w2.1, w2.2.1, w2.2.2.1, w2.2.2.2.1, w2.2.2.2.2, w3, w4.1, w4.2.1, w4.2.2.1, w4.2.2.2.1, w4.2.2.2.2.1, w4.2.2.2.2.2⟩⟩
  obtain ⟨s0_0, he0, sr0_0⟩ := GScore.rd_open r0
  simp only [List.cons.injEq, and_true] at he0
  subst he0
  obtain ⟨s1_0, he1, sr1_0⟩ := GTempoMap.rd_open r1
  simp only [List.cons.injEq, and_true] at he1
  subst he1
  obtain ⟨s2_4, he2, sr2_4⟩ := GTuning.rd_open r2
  simp only [List.cons.injEq, and_true] at he2
  obtain ⟨rfl, rfl, rfl, rfl, rfl⟩ := he2
  obtain ⟨s4_1, s4_2, s4_3, s4_4, s4_5, he4, sr4_1, sr4_2, sr4_3, sr4_4, sr4_5⟩ := GSession.rd_open r4
  simp only [List.cons.injEq, and_true] at he4
  obtain ⟨rfl, rfl, rfl, rfl, rfl, rfl⟩ := he4
  unfold GDesk.fs
  exact T.c_rl sr0_0 (T.c_rl sr1_0 (T.c_rn (T.c_rn (T.c_rn (T.c_rn (T.c_rl sr2_4 (T.c_rl r3 (T.c_rn (T.c_rl sr4_1 (T.c_rl sr4_2 (T.c_rl sr4_3 (T.c_rl sr4_4 (T.c_rl sr4_5 (T.c_re))))))))))))))
end Go.Proofs.YteiflbhcehajkaaGreatDoor
