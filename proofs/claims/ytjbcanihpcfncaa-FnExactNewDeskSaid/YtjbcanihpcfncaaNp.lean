/- NewDesk: both sides, the law. -/
import Derived.Test.YtjbcanihpcfncaaNl
import Derived.Test.YtjbcanihpcfncaaHd
namespace Go.Proofs.Ytjbcanihpcfncaa
open Go.RowKit
theorem Sg.nil_cons {lo hi : Nat} {r : List (List Nat)} (h : Sg lo hi r) : Sg lo hi ([] :: r) := ⟨lo, Nat.le_refl _, by simp, by simp, h⟩
theorem Sg.one_cons {lo hi g : Nat} {r : List (List Nat)} (h1 : lo ≤ g) (h : Sg (g + 1) hi r) : Sg lo hi ([g] :: r) := ⟨g + 1, by omega, by simp, by simp; omega, h⟩
theorem Bk.born_at {w : World} {g : Nat} {t : TypeId} {cs : Array Value} (h : g = w.heap.size) : Bk (w.alloc (.cells cs t)) g t cs := by subst h; exact Bk.born w t cs
theorem setCell_size (w : World) (a : Addr) (u : Value) : (w.setCell a u).heap.size = w.heap.size := by simp [World.setCell]
theorem T.ow_nil (w : World) (E : TypeId) (sz : Nat) : T.ow w (.sl E sz []) [] [.slice none 0 0] := by
  simp only [T.ow]
  exact ⟨_, [], [], rfl, by simp [Value.ownBlock], by simp, World.ownsRow_nil w 0 E sz, by simp [T.ows]⟩
theorem T.ow_lit1 {w : World} {g : Nat} {E : TypeId} {cs : Array Value} {x : T} (hb : Bk w g E cs) (hx : T.ow w x [] cs.toList) : T.ow w (.sl E (T.wide x) [x]) [g] [.slice (some ⟨g, 0, none⟩) 1 1] := by
  simp only [T.ow]
  have hl := T.ow_len hx
  refine ⟨_, cs.toList, [], rfl, by simp [Value.ownBlock], by simp, ⟨by rw [hl]; simp, .inr ⟨g, 1, cs, rfl, Nat.zero_le _, hb, by simp, by decide, by rw [← Array.length_toList, hl]; simp, by rw [List.take_of_length_le (by rw [hl]; simp)]⟩⟩, ?_⟩
  simp only [T.ows]
  exact ⟨[], [], cs.toList, [], rfl, by simp, hx, rfl, rfl⟩
def desk0 : GDesk := ⟨⟨[]⟩, ⟨[⟨⟨0, 1⟩, 48⟩]⟩, ⟨⟨8, 1⟩, ⟨2, 1⟩, [⟨1, 1⟩]⟩, [], ⟨100, [], [], [], [⟨0, [], [], []⟩], ⟨[⟨(⟨#[109, 97, 115, 116, 101, 114]⟩ : ByteArray), 0, []⟩]⟩⟩⟩
theorem ow_tempo0 {w : World} {g : Nat} (h : Bk w g 50 #[.int .i64 0, .int .i64 1, .int .i64 48]) : T.ow w (T.sl 50 3 (desk0.fTempos.fTempos.map GTempo.t)) [g] [.slice (some ⟨g, 0, none⟩) 1 1] :=
  T.ow_lit1 (x := GTempo.t ⟨⟨0, 1⟩, 48⟩) h (by simp only [GTempo.t, T.ow]; exact GTempo.ow_mk (x := ⟨⟨0, 1⟩, 48⟩))
theorem ow_ratio0 {w : World} {g : Nat} (h : Bk w g 29 #[.int .i64 1, .int .i64 1]) : T.ow w (T.sl 29 2 (desk0.fTuning.fRatios.map GFrac.t)) [g] [.slice (some ⟨g, 0, none⟩) 1 1] :=
  T.ow_lit1 (x := GFrac.t ⟨1, 1⟩) h (by simp only [GFrac.t, T.ow]; exact GFrac.ow_mk (x := ⟨1, 1⟩))
theorem ow_effect0 {w : World} {g : Nat} (h : Bk w g 53 #[.int .i64 0, .slice none 0 0, .slice none 0 0, .slice none 0 0]) : T.ow w (T.sl 53 4 (desk0.fSession.fEffects.map GPatch.t)) [g] [.slice (some ⟨g, 0, none⟩) 1 1] :=
  T.ow_lit1 (x := GPatch.t ⟨0, [], [], []⟩) h (by simp only [GPatch.t, T.ow]; exact GPatch.ow_mk (x := ⟨0, [], [], []⟩) (T.ow_nil _ _ _) (T.ow_nil _ _ _) (T.ow_nil _ _ _))
theorem ow_strip0 {w : World} {g : Nat} (h : Bk w g 56 #[.string (⟨#[109, 97, 115, 116, 101, 114]⟩ : ByteArray), .int .i64 0, .slice none 0 0]) : T.ow w (T.sl 56 3 (desk0.fSession.fMixer.fStrips.map GStrip.t)) [g] [.slice (some ⟨g, 0, none⟩) 1 1] :=
  T.ow_lit1 (x := GStrip.t ⟨(⟨#[109, 97, 115, 116, 101, 114]⟩ : ByteArray), 0, []⟩) h (by simp only [GStrip.t, T.ow]; exact GStrip.ow_mk (x := ⟨(⟨#[109, 97, 115, 116, 101, 114]⟩ : ByteArray), 0, []⟩) (T.ow_nil _ _ _))
theorem c_whole (n : Int) (w : World) : Calls Try.prog 10 #[.int .i64 n] w fun e w' => e = .returned (.agg #[.int .i64 n, .int .i64 1]) ∧ Below w.heap.size w w' := by
  go_enter Try.func10, Try.ntmps10
  go_wp2
  refine bodyPost_ret (v := .agg #[.int .i64 n, .int .i64 1]) (by simp [results, Try.results10, go_sem]) rfl ?_
  exact ⟨rfl, (by repeat (first | with_reducible exact Below.refl _ _ | with_reducible assumption | with_reducible refine Below.setCell ?_ (by first | omega | (simp; done) | (simp; omega)) _ | with_reducible refine Below.alloc ?_ (by first | omega | (simp; done) | (simp; omega)) _ | with_reducible refine Below.drew ?_ | with_reducible refine below_drewN ?_ _ | exact Below.refl _ _ | assumption | refine Below.drew ?_ | refine below_drewN ?_ _ | refine Below.alloc ?_ (by first | omega | (simp; done) | (simp; omega)) _ | refine Below.setCell ?_ (by first | omega | (simp; done) | (simp; omega)) _))⟩
theorem c_l15One (w : World) : Calls Try.prog 26 #[] w fun e w' => e = .returned (.agg #[.int .i64 1, .int .i64 1]) ∧ Below w.heap.size w w' := by
  go_enter Try.func26, Try.ntmps26
  go_wp2
  refine bodyPost_ret (v := .agg #[.int .i64 1, .int .i64 1]) (by simp [results, Try.results26, go_sem]) rfl ?_
  exact ⟨rfl, (by repeat (first | with_reducible exact Below.refl _ _ | with_reducible assumption | with_reducible refine Below.setCell ?_ (by first | omega | (simp; done) | (simp; omega)) _ | with_reducible refine Below.alloc ?_ (by first | omega | (simp; done) | (simp; omega)) _ | with_reducible refine Below.drew ?_ | with_reducible refine below_drewN ?_ _ | exact Below.refl _ _ | assumption | refine Below.drew ?_ | refine below_drewN ?_ _ | refine Below.alloc ?_ (by first | omega | (simp; done) | (simp; omega)) _ | refine Below.setCell ?_ (by first | omega | (simp; done) | (simp; omega)) _))⟩
set_option maxHeartbeats 2000000 in
set_option maxRecDepth 20000 in
theorem c_iNewDesk (w : World) : Calls Try.prog 5 #[] w fun e w' => ∃ u0 F0, ∃ u1 F1, ∃ u6 F6, ∃ u7 F7, ∃ u9 F9, ∃ u10 F10, ∃ u11 F11, ∃ u12 F12, ∃ u13 F13, e = .returned (.agg #[u0, u1, .int .i64 8, .int .i64 1, .int .i64 2, .int .i64 1, u6, u7, .int .i64 100, u9, u10, u11, u12, u13]) ∧ T.ow w' (T.sl 85 7 (desk0.fScore.fNotes.map GNote.t)) F0 [u0] ∧ T.ow w' (T.sl 50 3 (desk0.fTempos.fTempos.map GTempo.t)) F1 [u1] ∧ T.ow w' (T.sl 29 2 (desk0.fTuning.fRatios.map GFrac.t)) F6 [u6] ∧ T.ow w' (T.ints 2 desk0.fSignal) F7 [u7] ∧ T.ow w' (T.sl 33 1 (desk0.fSession.fSources.map (T.ints 2))) F9 [u9] ∧ T.ow w' (T.sl 90 1 (desk0.fSession.fTracks.map GTrack.t)) F10 [u10] ∧ T.ow w' (T.ints 2 desk0.fSession.fFeeds) F11 [u11] ∧ T.ow w' (T.sl 53 4 (desk0.fSession.fEffects.map GPatch.t)) F12 [u12] ∧ T.ow w' (T.sl 56 3 (desk0.fSession.fMixer.fStrips.map GStrip.t)) F13 [u13] ∧ Sg w.heap.size w'.heap.size [F0, F1, F6, F7, F9, F10, F11, F12, F13] ∧ Below w.heap.size w w' := by
  go_enter Try.func5, Try.ntmps5
  have HB0 := hide (show Below w.heap.size w (w.alloc (.cells #[.slice none 0 0, .slice none 0 0, .int .i64 0, .int .i64 0, .int .i64 0, .int .i64 0, .slice none 0 0, .slice none 0 0, .int .i64 0, .slice none 0 0, .slice none 0 0, .slice none 0 0, .slice none 0 0, .slice none 0 0] 43)) from (Below.refl _ _).alloc (Nat.le_refl _) _)
  have HK0 := hide (Bk.born w 43 #[.slice none 0 0, .slice none 0 0, .int .i64 0, .int .i64 0, .int .i64 0, .int .i64 0, .slice none 0 0, .slice none 0 0, .int .i64 0, .slice none 0 0, .slice none 0 0, .slice none 0 0, .slice none 0 0, .slice none 0 0])
  go_wp2_with fail
  refine (c_whole 0 _).mono ?_; rintro e w1 ⟨rfl, hb⟩
  have HK1 := hide (HK0.out.below hb HK0.out.lt); have HB1 := hide (bthen HB0.out HB0.out.size hb); have hz1 : w.heap.size + 1 ≤ w1.heap.size := (by have := hb.size; simpa using this); clear hb
  go_wp2_with fail
  have HT1 := hide (Bk.born w1 50 #[.int .i64 0, .int .i64 1, .int .i64 48])
  refine (c_whole 8 _).mono ?_; rintro e w2 ⟨rfl, hb⟩
  have HT2 := hide (HT1.out.below hb HT1.out.lt); have HK2 := hide ((HK1.out.alloc _).below hb (HK1.out.alloc _).lt); have HB2 := hide (bthen (HB1.out.alloc HB1.out.size _) (HB1.out.alloc HB1.out.size _).size hb); have hz2 : w1.heap.size + 1 ≤ w2.heap.size := (by have := hb.size; simpa using this); clear hb
  go_wp2_with fail
  refine (c_whole 2 _).mono ?_; rintro e w3 ⟨rfl, hb⟩
  have HT3 := hide (HT2.out.below hb HT2.out.lt); have HK3 := hide (HK2.out.below hb HK2.out.lt); have HB3 := hide (bthen HB2.out HB2.out.size hb); have hz3 := hb.size; clear hb
  go_wp2_with fail
  refine (c_whole 1 _).mono ?_; rintro e w4 ⟨rfl, hb⟩
  have HT4 := hide (HT3.out.below hb HT3.out.lt); have HK4 := hide (HK3.out.below hb HK3.out.lt); have HB4 := hide (bthen HB3.out HB3.out.size hb); have hz4 := hb.size; clear hb
  have k4 := HK4.out.cell; have f4 := HK4.out.free; have hlt4 : w.heap.size < w4.heap.size := HK4.out.lt
  have hne0 : ¬ w.heap.size = w4.heap.size := by omega
  have hne1 : ¬ w.heap.size = w4.heap.size + 1 := by omega
  have hne2 : ¬ w.heap.size = w4.heap.size + 1 + 1 := by omega
  have hlt5 : w.heap.size < w4.heap.size + 1 := by omega
  have hlt6 : w.heap.size < w4.heap.size + 1 + 1 := by omega
  go_wp2
  refine bodyPost_ret (v := .agg #[.slice none 0 0, (.slice (some ⟨w1.heap.size, 0, none⟩) 1 1), .int .i64 8, .int .i64 1, .int .i64 2, .int .i64 1, (.slice (some ⟨w4.heap.size, 0, none⟩) 1 1), .slice none 0 0, .int .i64 100, .slice none 0 0, .slice none 0 0, .slice none 0 0, (.slice (some ⟨w4.heap.size + 1, 0, none⟩) 1 1), (.slice (some ⟨w4.heap.size + 1 + 1, 0, none⟩) 1 1)]) (by simp [results, Try.results5, go_sem, k4, f4, hlt4, hlt5, hlt6, hne0, hne1, hne2, World.cell?_alloc_past, setCell_size]) rfl ?_
  have hB := HB4.out
  have hSz := hB.size
  have hT := HT4.out
  refine ⟨_, [], _, [w1.heap.size], _, [w4.heap.size], _, [], _, [], _, [], _, [], _, [w4.heap.size + 1], _, [w4.heap.size + 1 + 1], rfl, T.ow_nil _ _ _, ow_tempo0 (by repeat (first | with_reducible exact hT | with_reducible exact Bk.born_at (by simp) | with_reducible refine Bk.alloc ?_ _ | with_reducible refine Bk.far ?_ (by first | omega | (simp; done) | (simp; omega)) _)), ow_ratio0 (by repeat (first | with_reducible exact hT | with_reducible exact Bk.born_at (by simp) | with_reducible refine Bk.alloc ?_ _ | with_reducible refine Bk.far ?_ (by first | omega | (simp; done) | (simp; omega)) _)), T.ow_nil _ _ _, T.ow_nil _ _ _, T.ow_nil _ _ _, T.ow_nil _ _ _, ow_effect0 (by repeat (first | with_reducible exact hT | with_reducible exact Bk.born_at (by simp) | with_reducible refine Bk.alloc ?_ _ | with_reducible refine Bk.far ?_ (by first | omega | (simp; done) | (simp; omega)) _)), ow_strip0 (by repeat (first | with_reducible exact hT | with_reducible exact Bk.born_at (by simp) | with_reducible refine Bk.alloc ?_ _ | with_reducible refine Bk.far ?_ (by first | omega | (simp; done) | (simp; omega)) _)), ?_, ?_⟩
  · simp only [World.setCell, World.alloc, Array.size_modify, Array.size_push]
    exact (Sg.nil_cons (Sg.one_cons (by omega) (Sg.one_cons (by omega) (Sg.nil_cons (Sg.nil_cons (Sg.nil_cons (Sg.nil_cons (Sg.one_cons (by omega) (Sg.one_cons (by omega) ((show _ ≤ _ by omega)))))))))))
  · exact (by repeat (first | with_reducible exact Below.refl _ _ | with_reducible assumption | with_reducible refine Below.setCell ?_ (by first | omega | (simp; done) | (simp; omega)) _ | with_reducible refine Below.alloc ?_ (by first | omega | (simp; done) | (simp; omega)) _))
set_option maxHeartbeats 2000000 in
set_option maxRecDepth 20000 in
theorem c_l33New (w : World) : Calls Try.prog 9 #[] w fun e w' => ∃ u0 F0, ∃ u1 F1, ∃ u6 F6, ∃ u7 F7, ∃ u9 F9, ∃ u10 F10, ∃ u11 F11, ∃ u12 F12, ∃ u13 F13, e = .returned (.agg #[u0, u1, .int .i64 8, .int .i64 1, .int .i64 2, .int .i64 1, u6, u7, .int .i64 100, u9, u10, u11, u12, u13]) ∧ T.ow w' (T.sl 85 7 (desk0.fScore.fNotes.map GNote.t)) F0 [u0] ∧ T.ow w' (T.sl 50 3 (desk0.fTempos.fTempos.map GTempo.t)) F1 [u1] ∧ T.ow w' (T.sl 29 2 (desk0.fTuning.fRatios.map GFrac.t)) F6 [u6] ∧ T.ow w' (T.ints 2 desk0.fSignal) F7 [u7] ∧ T.ow w' (T.sl 33 1 (desk0.fSession.fSources.map (T.ints 2))) F9 [u9] ∧ T.ow w' (T.sl 90 1 (desk0.fSession.fTracks.map GTrack.t)) F10 [u10] ∧ T.ow w' (T.ints 2 desk0.fSession.fFeeds) F11 [u11] ∧ T.ow w' (T.sl 53 4 (desk0.fSession.fEffects.map GPatch.t)) F12 [u12] ∧ T.ow w' (T.sl 56 3 (desk0.fSession.fMixer.fStrips.map GStrip.t)) F13 [u13] ∧ Sg w.heap.size w'.heap.size [F0, F1, F6, F7, F9, F10, F11, F12, F13] ∧ Below w.heap.size w w' := by
  go_enter Try.func9, Try.ntmps9
  have HB0 := hide (show Below w.heap.size w ((w.alloc (.cells #[.slice none 0 0, .slice none 0 0, .int .i64 0, .int .i64 0, .int .i64 0, .int .i64 0, .slice none 0 0, .slice none 0 0, .int .i64 0, .slice none 0 0, .slice none 0 0, .slice none 0 0, .slice none 0 0, .slice none 0 0] 43)).alloc (.cells #[.int .i64 0, .int .i64 1, .int .i64 48] 50)) from ((Below.refl _ _).alloc (Nat.le_refl _) _).alloc (by simp) _)
  have HK0 := hide ((Bk.born w 43 #[.slice none 0 0, .slice none 0 0, .int .i64 0, .int .i64 0, .int .i64 0, .int .i64 0, .slice none 0 0, .slice none 0 0, .int .i64 0, .slice none 0 0, .slice none 0 0, .slice none 0 0, .slice none 0 0, .slice none 0 0]).alloc (.cells #[.int .i64 0, .int .i64 1, .int .i64 48] 50))
  have HT0 := hide (Bk.born1' w (.cells #[.slice none 0 0, .slice none 0 0, .int .i64 0, .int .i64 0, .int .i64 0, .int .i64 0, .slice none 0 0, .slice none 0 0, .int .i64 0, .slice none 0 0, .slice none 0 0, .slice none 0 0, .slice none 0 0, .slice none 0 0] 43) 50 #[.int .i64 0, .int .i64 1, .int .i64 48])
  go_wp2_with fail
  refine (c_l15One _).mono ?_; rintro e w4 ⟨rfl, hb⟩
  have HT4 := hide (HT0.out.below hb HT0.out.lt); have HK4 := hide (HK0.out.below hb HK0.out.lt); have HB4 := hide (bthen HB0.out HB0.out.size hb); have hz4 : w.heap.size + 2 ≤ w4.heap.size := (by have := hb.size; simpa using this); clear hb
  have k4 := HK4.out.cell; have f4 := HK4.out.free; have hlt4 : w.heap.size < w4.heap.size := HK4.out.lt
  have hne0 : ¬ w.heap.size = w4.heap.size := by omega
  have hne1 : ¬ w.heap.size = w4.heap.size + 1 := by omega
  have hne2 : ¬ w.heap.size = w4.heap.size + 1 + 1 := by omega
  have hlt5 : w.heap.size < w4.heap.size + 1 := by omega
  have hlt6 : w.heap.size < w4.heap.size + 1 + 1 := by omega
  go_wp2
  refine bodyPost_ret (v := .agg #[.slice none 0 0, (.slice (some ⟨w.heap.size + 1, 0, none⟩) 1 1), .int .i64 8, .int .i64 1, .int .i64 2, .int .i64 1, (.slice (some ⟨w4.heap.size, 0, none⟩) 1 1), .slice none 0 0, .int .i64 100, .slice none 0 0, .slice none 0 0, .slice none 0 0, (.slice (some ⟨w4.heap.size + 1, 0, none⟩) 1 1), (.slice (some ⟨w4.heap.size + 1 + 1, 0, none⟩) 1 1)]) (by simp [results, Try.results9, go_sem, k4, f4, hlt4, hlt5, hlt6, hne0, hne1, hne2, World.cell?_alloc_past, setCell_size]) rfl ?_
  have hB := HB4.out
  have hSz := hB.size
  have hT := HT4.out
  refine ⟨_, [], _, [w.heap.size + 1], _, [w4.heap.size], _, [], _, [], _, [], _, [], _, [w4.heap.size + 1], _, [w4.heap.size + 1 + 1], rfl, T.ow_nil _ _ _, ow_tempo0 (by repeat (first | with_reducible exact hT | with_reducible exact Bk.born_at (by simp) | with_reducible refine Bk.alloc ?_ _ | with_reducible refine Bk.far ?_ (by first | omega | (simp; done) | (simp; omega)) _)), ow_ratio0 (by repeat (first | with_reducible exact hT | with_reducible exact Bk.born_at (by simp) | with_reducible refine Bk.alloc ?_ _ | with_reducible refine Bk.far ?_ (by first | omega | (simp; done) | (simp; omega)) _)), T.ow_nil _ _ _, T.ow_nil _ _ _, T.ow_nil _ _ _, T.ow_nil _ _ _, ow_effect0 (by repeat (first | with_reducible exact hT | with_reducible exact Bk.born_at (by simp) | with_reducible refine Bk.alloc ?_ _ | with_reducible refine Bk.far ?_ (by first | omega | (simp; done) | (simp; omega)) _)), ow_strip0 (by repeat (first | with_reducible exact hT | with_reducible exact Bk.born_at (by simp) | with_reducible refine Bk.alloc ?_ _ | with_reducible refine Bk.far ?_ (by first | omega | (simp; done) | (simp; omega)) _)), ?_, ?_⟩
  · simp only [World.setCell, World.alloc, Array.size_modify, Array.size_push]
    exact (Sg.nil_cons (Sg.one_cons (by omega) (Sg.one_cons (by omega) (Sg.nil_cons (Sg.nil_cons (Sg.nil_cons (Sg.nil_cons (Sg.one_cons (by omega) (Sg.one_cons (by omega) ((show _ ≤ _ by omega)))))))))))
  · exact (by repeat (first | with_reducible exact Below.refl _ _ | with_reducible assumption | with_reducible refine Below.setCell ?_ (by first | omega | (simp; done) | (simp; omega)) _ | with_reducible refine Below.alloc ?_ (by first | omega | (simp; done) | (simp; omega)) _))
end Go.Proofs.Ytjbcanihpcfncaa
