/- Contracts: tempo maps, reference: positions. -/
import Derived.Test.YteiflbhcehajkaaGreatDoorQAwExactDeskText
import Derived.Test.YteiflbhcehajkaaGreatDoorQApExactDeskText
import Derived.Test.YteiflbhcehajkaaGreatDoorQAfExactDeskText
set_option linter.unusedVariables false
set_option linter.unusedSimpArgs false
namespace Go.Proofs.YteiflbhcehajkaaGreatDoor
open Go.RowKit
theorem Own.far_ {B : Nat} {w : World} {x : T} {F : List Nat} {v : Value} (h : Own B w x F v) {g : Nat} (hg : g ∉ F) (o : Nat) (u : Value) : Own B (w.setCell ⟨g, o, none⟩ u) x F v := ⟨T.ow_far h.ow hg o u, h.nodup, h.lo⟩
theorem beat_zero {f : GFrac} (h : fracOk f) (h0 : f.fNum = 0) : f = fr01 := by
  obtain ⟨⟨h1, h2⟩, -, h3⟩ := h
  obtain ⟨n, d⟩ := f
  dsimp only at *
  subst h0
  rw [Int.natAbs_zero, Nat.gcd_zero_left] at h3
  unfold fr01
  congr 1
  omega
set_option maxHeartbeats 4000000 in
set_option maxRecDepth 100000 in
theorem c_l17Positions (x : GTempoMap) (b o : Nat) (w : World) (h : T.at w x.fs b o) : Calls Tryz.prog 137 #[.pointer (some ⟨b, o, none⟩)] w fun e w' => ∃ v, e = .returned (.tuple #[v, .bool (tf (TemposOk x.fTempos))]) ∧ Below w.heap.size w w' := by
  have HAT := hide h
  obtain ⟨hlt0, cs, hr, hc⟩ := h
  obtain ⟨v0, rfl, h0⟩ := GTempoMap.rd_open hr
  clear hr
  have R0 := hide h0; obtain ⟨va0, vc0, rfl, vl0, vm0, vx0⟩ := T.rd_openG h0
  have HX0 := hide vx0; clear vx0 h0
  have HL := hide hlt0; have HCC := hide hc; have HB0 := hide (Below.refl w.heap.size w); clear hlt0 hc
  have p0 : w.cell? ⟨b, o, none⟩ = some (.slice va0 x.fTempos.length vc0) := (HB0.out.cell HL.out).trans (HCC.out 0 _ rfl)
  have lb : b < w.heap.size := Nat.lt_of_lt_of_le HL.out HB0.out.size
  by_cases h1 : inB (x.fTempos.length : Int) 1 8 = true
  rotate_left
  ·
    have b1 : inB (x.fTempos.length : Int) 1 8 = false := (by simpa using h1); have H1 := hide h1; clear h1
    go_enter Tryz.func137, Tryz.ntmps137
    go_wp2_with (go_at_call 56; refine (c_l00In _ _ _ _).mono ?_; rintro e w' ⟨rfl, rfl⟩)
    refine bodyPost_ret (v := .tuple #[.slice none 0 0, .bool false]) (by simp [results, Tryz.results137, go_sem]) rfl ?_
    exact ⟨_, by rw [tf_no (fun h : TemposOk x.fTempos => H1.out (inB_iff.2 ⟨by have := h.some_; omega, by have := h.few; omega⟩))], by have hb := HB0.out; have hz := hb.size; exact (by repeat (first | with_reducible exact Below.refl _ _ | with_reducible assumption | with_reducible refine Below.setCell ?_ (by first | omega | (simp; done) | (simp; omega)) _ | with_reducible refine Below.alloc ?_ (by first | omega | (simp; done) | (simp; omega)) _ | with_reducible refine Below.drew ?_ | with_reducible refine below_drewN ?_ _ | exact Below.refl _ _ | assumption | refine Below.drew ?_ | refine below_drewN ?_ _ | refine Below.alloc ?_ (by first | omega | (simp; done) | (simp; omega)) _ | refine Below.setCell ?_ (by first | omega | (simp; done) | (simp; omega)) _))⟩
  have k1 := inB_iff.1 h1
  have HB1 := hide (show Below w.heap.size w ((w.alloc (.cells #[] 64)).alloc (.cells #[.int .i64 0, .int .i64 1] 64)) from ((Below.refl _ _).alloc (Nat.le_refl _) _).alloc (by simp) _)
  have HO1 := hide ((Own.born (World.ownsRow_made w #[] 0 (Nat.le_refl _) (by decide) rfl : (w.alloc (.cells #[] 64)).ownsRow w.heap.size 64 2 (.slice (some ⟨w.heap.size, 0, none⟩) 0 0) 0 [])).all ((Below.refl _ _).alloc (Nat.le_refl _) (.cells #[.int .i64 0, .int .i64 1] 64)))
  have KA1 := hide (Bk.born1' w (.cells #[] 64) 64 #[.int .i64 0, .int .i64 1])
  go_enter Tryz.func137, Tryz.ntmps137
  go_wp2_with (go_at_call 56; refine (c_l00In _ _ _ _).mono ?_; rintro e w' ⟨rfl, rfl⟩)
  generalize ((w.alloc (.cells #[] 64)).alloc (.cells #[.int .i64 0, .int .i64 1] 64)) = W0 at *
  clear p0 lb
  go_loopw [4, 6] (fun v i wr => ∃ (k : Nat) (os : List GFrac) (Fo : List Nat) (a : GFrac), k ≤ x.fTempos.length ∧ os.length = k ∧ i = .int .i64 k ∧ Own w.heap.size wr (T.sl 64 2 (os.map GFrac.t)) Fo v ∧ w.heap.size + 1 ∉ Fo ∧ Bk wr (w.heap.size + 1) 64 #[.int .i64 a.fNum, .int .i64 a.fDen] ∧ a = stepFrom x.fTempos fr01 (k - 1) ∧ Upto x.fTempos (TempoE x.fTempos) k ∧ ChainN x.fTempos fr01 k ∧ (0 < k → (x.fTempos.getD 0 ⟨zeroFr, 0⟩).fBeat = fr01) ∧ Below w.heap.size w wr) (fun _ i _ => x.fTempos.length - (intOf i).toNat)
  case atStart => exact ⟨0, [], _, fr01, Nat.zero_le _, rfl, rfl, HO1.out, by simp [Value.ownBlock], KA1.out, rfl, Upto.zero, fun j _ _ hj => by omega, fun h => by omega, HB1.out⟩
  case round =>
    obtain ⟨k, os, Fo, a, hk, hol, rfl, ho, hgf, ka, ha, hs, hch, hfi, hbw⟩ := hrel
    have HO := hide ho; have HGF := hide hgf; have KA := hide ka; have HAE := hide ha; have HS := hide hs; have HCH := hide hch; have HFI := hide hfi; have HB := hide hbw; have HOL := hide hol; clear ho hgf ka ha hs hch hfi hbw hol HB1 HO1 KA1
    have p0 : wr.cell? ⟨b, o, none⟩ = some (.slice va0 x.fTempos.length vc0) := (HB.out.cell HL.out).trans (HCC.out 0 _ rfl)
    have lb : b < wr.heap.size := Nat.lt_of_lt_of_le HL.out HB.out.size
    by_cases hlt : k < x.fTempos.length
    rotate_left
    ·
      obtain rfl : k = x.fTempos.length := by omega
      have hall := hide (tf_yes (show TemposOk x.fTempos from ⟨by omega, by omega, HFI.out (by omega), HS.out.all (Nat.le_refl _), (chain_iff _ _).2 HCH.out⟩))
      obtain ⟨tA, tL, tC, rfl⟩ := T.ow_slice HO.out.ow
      go_wp2
      refine bodyPost_ret (v := .tuple #[.slice tA tL tC, .bool true]) (by simp [results, Tryz.results137, go_sem]) rfl ?_
      exact ⟨_, by rw [hall.out], HB.out⟩
    have hgk := List.getElem?_eq_getElem hlt
    obtain ⟨b1, off, cs1, hA, hb1, hcs, hcell⟩ := HX0.out k x.fTempos[k] hgk
    subst hA
    generalize hyy : x.fTempos[k] = y at *; clear hyy
    have HGK := hide hgk; clear hgk
    obtain rfl := GTempo.rd_open (show T.rds _ _ _ by simpa only [GTempo.t, T.rd] using hcs)
    have d0 := (HB.out.cell hb1).trans (hcell 0 (.int .i64 y.fBeat.fNum) rfl)
    have d1 := (HB.out.cell hb1).trans (hcell 1 (.int .i64 y.fBeat.fDen) rfl)
    have d2 := (HB.out.cell hb1).trans (hcell 2 (.int .i64 y.fSamples) rfl)
    rw [show off + (k * 3 + 0) = off + k * 3 by omega] at d0
    rw [show off + (k * 3 + 1) = off + k * 3 + 1 by omega] at d1
    rw [show off + (k * 3 + 2) = off + k * 3 + 2 by omega] at d2
    clear hcs hcell
    have hq1 := Nat.lt_of_lt_of_le hb1 HB.out.size
    have i1 : (k : Int) < (x.fTempos.length : Int) := by omega
    have hz := HB.out.size; have HB1 := hide (HB.out.alloc hz (.cells #[.int .i64 y.fBeat.fNum, .int .i64 y.fBeat.fDen, .int .i64 y.fSamples] 107)); have hbl := (show Below _ wr (wr.alloc (.cells #[.int .i64 y.fBeat.fNum, .int .i64 y.fBeat.fDen, .int .i64 y.fSamples] 107)) from (Below.refl _ _).alloc (Nat.le_refl _) _)
    have HO1 := hide (HO.out.all hbl)
    have KA1 := hide (KA.out.below hbl KA.out.lt)
    have KX1 := hide (Bk.born wr 107 #[.int .i64 y.fBeat.fNum, .int .i64 y.fBeat.fDen, .int .i64 y.fSamples])
    go_wp2_with fail
    generalize (wr.alloc (.cells #[.int .i64 y.fBeat.fNum, .int .i64 y.fBeat.fDen, .int .i64 y.fSamples] 107)) = W1 at *
    clear hbl p0 lb d0 d1 d2 hq1 hz
    have cA := KA1.out.cell; have lA := KA1.out.lt; have fA := KA1.out.free
    have cX := KX1.out.cell; have lX := KX1.out.lt; have fX := KX1.out.free
    by_cases h2 : fracOk y.fBeat
    rotate_left
    ·
      have q1 := tf_no h2; have N_ := hide h2; clear h2
      go_wp2_with (go_at_call 138; refine (c_l02Ok y.fBeat _ _ GFrac.rd_mk).mono ?_; rintro e w2 ⟨rfl, hb⟩; rw [q1]; have HB2 := hide (bthen HB1.out HB1.out.size hb); have HO2 := hide (HO1.out.all hb); have KA2 := hide (KA1.out.below hb KA1.out.lt); have KX2 := hide (KX1.out.below hb KX1.out.lt); clear hb; clear cA lA fA cX lX fX; have cA := KA2.out.cell; have lA := KA2.out.lt; have fA := KA2.out.free; have cX := KX2.out.cell; have lX := KX2.out.lt; have fX := KX2.out.free; have p0 : w2.cell? ⟨b, o, none⟩ = some (.slice (some ⟨b1, off, none⟩) x.fTempos.length vc0) := (HB2.out.cell HL.out).trans (HCC.out 0 _ rfl); have lb : b < w2.heap.size := Nat.lt_of_lt_of_le HL.out HB2.out.size)
      refine bodyPost_ret (v := .tuple #[.slice none 0 0, .bool false]) (by simp [results, Tryz.results137, go_sem]) rfl ?_
      exact ⟨_, by rw [tf_no (fun h : TemposOk x.fTempos => N_.out (h.each k y HGK.out).1.1.1)], by have hb := HB2.out; have hz := hb.size; exact (by repeat (first | with_reducible exact Below.refl _ _ | with_reducible assumption | with_reducible refine Below.setCell ?_ (by first | omega | (simp; done) | (simp; omega)) _ | with_reducible refine Below.alloc ?_ (by first | omega | (simp; done) | (simp; omega)) _ | with_reducible refine Below.drew ?_ | with_reducible refine below_drewN ?_ _ | exact Below.refl _ _ | assumption | refine Below.drew ?_ | refine below_drewN ?_ _ | refine Below.alloc ?_ (by first | omega | (simp; done) | (simp; omega)) _ | refine Below.setCell ?_ (by first | omega | (simp; done) | (simp; omega)) _))⟩
    have q1 := tf_yes h2; have F1 := hide h2; clear h2
    by_cases h3 : beatN y.fBeat
    rotate_left
    ·
      have q2 := tf_no h3; have N_ := hide h3; clear h3
      go_wp2_with (first | (go_at_call 138; refine (c_l02Ok y.fBeat _ _ GFrac.rd_mk).mono ?_; rintro e w2 ⟨rfl, hb⟩; rw [q1]; have HB2 := hide (bthen HB1.out HB1.out.size hb); have HO2 := hide (HO1.out.all hb); have KA2 := hide (KA1.out.below hb KA1.out.lt); have KX2 := hide (KX1.out.below hb KX1.out.lt); clear hb; clear cA lA fA cX lX fX; have cA := KA2.out.cell; have lA := KA2.out.lt; have fA := KA2.out.free; have cX := KX2.out.cell; have lX := KX2.out.lt; have fX := KX2.out.free; have p0 : w2.cell? ⟨b, o, none⟩ = some (.slice (some ⟨b1, off, none⟩) x.fTempos.length vc0) := (HB2.out.cell HL.out).trans (HCC.out 0 _ rfl); have lb : b < w2.heap.size := Nat.lt_of_lt_of_le HL.out HB2.out.size) | (go_at_call 186; refine (c_l17Beat y.fBeat _ _ F1.out GFrac.rd_mk).mono ?_; rintro e w3 ⟨rfl, hb⟩; rw [q2]; have HB3 := hide (bthen HB2.out HB2.out.size hb); have HO3 := hide (HO2.out.all hb); have KA3 := hide (KA2.out.below hb KA2.out.lt); have KX3 := hide (KX2.out.below hb KX2.out.lt); clear hb; clear cA lA fA cX lX fX; clear p0 lb; have cA := KA3.out.cell; have lA := KA3.out.lt; have fA := KA3.out.free; have cX := KX3.out.cell; have lX := KX3.out.lt; have fX := KX3.out.free; have p0 : w3.cell? ⟨b, o, none⟩ = some (.slice (some ⟨b1, off, none⟩) x.fTempos.length vc0) := (HB3.out.cell HL.out).trans (HCC.out 0 _ rfl); have lb : b < w3.heap.size := Nat.lt_of_lt_of_le HL.out HB3.out.size))
      refine bodyPost_ret (v := .tuple #[.slice none 0 0, .bool false]) (by simp [results, Tryz.results137, go_sem]) rfl ?_
      exact ⟨_, by rw [tf_no (fun h : TemposOk x.fTempos => N_.out (h.each k y HGK.out).1.1.2)], by have hb := HB3.out; have hz := hb.size; exact (by repeat (first | with_reducible exact Below.refl _ _ | with_reducible assumption | with_reducible refine Below.setCell ?_ (by first | omega | (simp; done) | (simp; omega)) _ | with_reducible refine Below.alloc ?_ (by first | omega | (simp; done) | (simp; omega)) _ | with_reducible refine Below.drew ?_ | with_reducible refine below_drewN ?_ _ | exact Below.refl _ _ | assumption | refine Below.drew ?_ | refine below_drewN ?_ _ | refine Below.alloc ?_ (by first | omega | (simp; done) | (simp; omega)) _ | refine Below.setCell ?_ (by first | omega | (simp; done) | (simp; omega)) _))⟩
    have q2 := tf_yes h3; have F2 := hide h3; clear h3
    by_cases h4 : inB y.fSamples 1 1000 = true
    rotate_left
    ·
      have b_ : inB y.fSamples 1 1000 = false := (by simpa using h4); have N_ := hide h4; clear h4
      go_wp2_with (first | (go_at_call 138; refine (c_l02Ok y.fBeat _ _ GFrac.rd_mk).mono ?_; rintro e w2 ⟨rfl, hb⟩; rw [q1]; have HB2 := hide (bthen HB1.out HB1.out.size hb); have HO2 := hide (HO1.out.all hb); have KA2 := hide (KA1.out.below hb KA1.out.lt); have KX2 := hide (KX1.out.below hb KX1.out.lt); clear hb; clear cA lA fA cX lX fX; have cA := KA2.out.cell; have lA := KA2.out.lt; have fA := KA2.out.free; have cX := KX2.out.cell; have lX := KX2.out.lt; have fX := KX2.out.free; have p0 : w2.cell? ⟨b, o, none⟩ = some (.slice (some ⟨b1, off, none⟩) x.fTempos.length vc0) := (HB2.out.cell HL.out).trans (HCC.out 0 _ rfl); have lb : b < w2.heap.size := Nat.lt_of_lt_of_le HL.out HB2.out.size) | (go_at_call 186; refine (c_l17Beat y.fBeat _ _ F1.out GFrac.rd_mk).mono ?_; rintro e w3 ⟨rfl, hb⟩; rw [q2]; have HB3 := hide (bthen HB2.out HB2.out.size hb); have HO3 := hide (HO2.out.all hb); have KA3 := hide (KA2.out.below hb KA2.out.lt); have KX3 := hide (KX2.out.below hb KX2.out.lt); clear hb; clear cA lA fA cX lX fX; clear p0 lb; have cA := KA3.out.cell; have lA := KA3.out.lt; have fA := KA3.out.free; have cX := KX3.out.cell; have lX := KX3.out.lt; have fX := KX3.out.free; have p0 : w3.cell? ⟨b, o, none⟩ = some (.slice (some ⟨b1, off, none⟩) x.fTempos.length vc0) := (HB3.out.cell HL.out).trans (HCC.out 0 _ rfl); have lb : b < w3.heap.size := Nat.lt_of_lt_of_le HL.out HB3.out.size) | (go_at_call 56; refine (c_l00In _ _ _ _).mono ?_; rintro e w' ⟨rfl, rfl⟩))
      refine bodyPost_ret (v := .tuple #[.slice none 0 0, .bool false]) (by simp [results, Tryz.results137, go_sem]) rfl ?_
      exact ⟨_, by rw [tf_no (fun h : TemposOk x.fTempos => N_.out (inB_iff.2 (h.each k y HGK.out).1.2))], by have hb := HB3.out; have hz := hb.size; exact (by repeat (first | with_reducible exact Below.refl _ _ | with_reducible assumption | with_reducible refine Below.setCell ?_ (by first | omega | (simp; done) | (simp; omega)) _ | with_reducible refine Below.alloc ?_ (by first | omega | (simp; done) | (simp; omega)) _ | with_reducible refine Below.drew ?_ | with_reducible refine below_drewN ?_ _ | exact Below.refl _ _ | assumption | refine Below.drew ?_ | refine below_drewN ?_ _ | refine Below.alloc ?_ (by first | omega | (simp; done) | (simp; omega)) _ | refine Below.setCell ?_ (by first | omega | (simp; done) | (simp; omega)) _))⟩
    have HSA := hide (inB_iff.1 h4)
    by_cases hk0 : k = 0
    ·
      subst hk0
      have HY0 := hide (show (x.fTempos.getD 0 ⟨zeroFr, 0⟩) = y by rw [List.getD_eq_getElem?_getD, HGK.out]; rfl)
      by_cases h5 : y.fBeat.fNum = 0
      rotate_left
      ·
        have q5 : (y.fBeat.fNum != 0) = true := bneI_t h5; have N_ := hide h5; clear h5
        go_wp2_with (first | (go_at_call 138; refine (c_l02Ok y.fBeat _ _ GFrac.rd_mk).mono ?_; rintro e w2 ⟨rfl, hb⟩; rw [q1]; have HB2 := hide (bthen HB1.out HB1.out.size hb); have HO2 := hide (HO1.out.all hb); have KA2 := hide (KA1.out.below hb KA1.out.lt); have KX2 := hide (KX1.out.below hb KX1.out.lt); clear hb; clear cA lA fA cX lX fX; have cA := KA2.out.cell; have lA := KA2.out.lt; have fA := KA2.out.free; have cX := KX2.out.cell; have lX := KX2.out.lt; have fX := KX2.out.free; have p0 : w2.cell? ⟨b, o, none⟩ = some (.slice (some ⟨b1, off, none⟩) x.fTempos.length vc0) := (HB2.out.cell HL.out).trans (HCC.out 0 _ rfl); have lb : b < w2.heap.size := Nat.lt_of_lt_of_le HL.out HB2.out.size) | (go_at_call 186; refine (c_l17Beat y.fBeat _ _ F1.out GFrac.rd_mk).mono ?_; rintro e w3 ⟨rfl, hb⟩; rw [q2]; have HB3 := hide (bthen HB2.out HB2.out.size hb); have HO3 := hide (HO2.out.all hb); have KA3 := hide (KA2.out.below hb KA2.out.lt); have KX3 := hide (KX2.out.below hb KX2.out.lt); clear hb; clear cA lA fA cX lX fX; clear p0 lb; have cA := KA3.out.cell; have lA := KA3.out.lt; have fA := KA3.out.free; have cX := KX3.out.cell; have lX := KX3.out.lt; have fX := KX3.out.free; have p0 : w3.cell? ⟨b, o, none⟩ = some (.slice (some ⟨b1, off, none⟩) x.fTempos.length vc0) := (HB3.out.cell HL.out).trans (HCC.out 0 _ rfl); have lb : b < w3.heap.size := Nat.lt_of_lt_of_le HL.out HB3.out.size) | (go_at_call 56; refine (c_l00In _ _ _ _).mono ?_; rintro e w' ⟨rfl, rfl⟩))
        refine bodyPost_ret (v := .tuple #[.slice none 0 0, .bool false]) (by simp [results, Tryz.results137, go_sem]) rfl ?_
        exact ⟨_, by rw [tf_no (fun h : TemposOk x.fTempos => N_.out (by have := h.first; rw [HY0.out] at this; rw [this]; rfl))], by have hb := HB3.out; have hz := hb.size; exact (by repeat (first | with_reducible exact Below.refl _ _ | with_reducible assumption | with_reducible refine Below.setCell ?_ (by first | omega | (simp; done) | (simp; omega)) _ | with_reducible refine Below.alloc ?_ (by first | omega | (simp; done) | (simp; omega)) _ | with_reducible refine Below.drew ?_ | with_reducible refine below_drewN ?_ _ | exact Below.refl _ _ | assumption | refine Below.drew ?_ | refine below_drewN ?_ _ | refine Below.alloc ?_ (by first | omega | (simp; done) | (simp; omega)) _ | refine Below.setCell ?_ (by first | omega | (simp; done) | (simp; omega)) _))⟩
      have q5 : (y.fBeat.fNum != 0) = false := bneI_f h5; have F5 := hide (beat_zero F1.out h5); clear h5
      go_wp2_with (first |  (go_at_call 138; refine (c_l02Ok y.fBeat _ _ GFrac.rd_mk).mono ?_; rintro e w2 ⟨rfl, hb⟩; rw [q1]; have HB2 := hide (bthen HB1.out HB1.out.size hb); have HO2 := hide (HO1.out.all hb); have KA2 := hide (KA1.out.below hb KA1.out.lt); have KX2 := hide (KX1.out.below hb KX1.out.lt); clear hb; clear cA lA fA cX lX fX; have cA := KA2.out.cell; have lA := KA2.out.lt; have fA := KA2.out.free; have cX := KX2.out.cell; have lX := KX2.out.lt; have fX := KX2.out.free; have p0 : w2.cell? ⟨b, o, none⟩ = some (.slice (some ⟨b1, off, none⟩) x.fTempos.length vc0) := (HB2.out.cell HL.out).trans (HCC.out 0 _ rfl); have lb : b < w2.heap.size := Nat.lt_of_lt_of_le HL.out HB2.out.size) | (go_at_call 186; refine (c_l17Beat y.fBeat _ _ F1.out GFrac.rd_mk).mono ?_; rintro e w3 ⟨rfl, hb⟩; rw [q2]; have HB3 := hide (bthen HB2.out HB2.out.size hb); have HO3 := hide (HO2.out.all hb); have KA3 := hide (KA2.out.below hb KA2.out.lt); have KX3 := hide (KX2.out.below hb KX2.out.lt); clear hb; clear cA lA fA cX lX fX; clear p0 lb; have cA := KA3.out.cell; have lA := KA3.out.lt; have fA := KA3.out.free; have cX := KX3.out.cell; have lX := KX3.out.lt; have fX := KX3.out.free; have p0 : w3.cell? ⟨b, o, none⟩ = some (.slice (some ⟨b1, off, none⟩) x.fTempos.length vc0) := (HB3.out.cell HL.out).trans (HCC.out 0 _ rfl); have lb : b < w3.heap.size := Nat.lt_of_lt_of_le HL.out HB3.out.size) | (go_at_call 56; refine (c_l00In _ _ _ _).mono ?_; rintro e w' ⟨rfl, rfl⟩) | (at_builtin; refine app1_T rfl _ _ _ rfl w.heap.size _ _ 2 16 Tryz.underlying65 info_FracS rfl (by omega) rfl HO3.out (x := GFrac.t a) (T.ow_st GFrac.ow_mk) List.nodup_nil (fun b hb => by simp at hb) (fun b hb hb2 => by simp at hb2) rfl rfl (by rw [List.length_map]; have := HOL.out; omega) (by rw [List.length_map]; have := HOL.out; omega) HB3.out.size ?_; intro v9 w9 F9 ho9 hg9 hv9; have HO9 := hide ho9; have HB9 := hide (HO3.out.below HB3.out HB3.out.size hg9); have HGF9 := hide (show w.heap.size + 1 ∉ F9 from fun hm => by rcases hv9 _ hm with h | h | h; (· exact HGF.out h); (· simp at h); (· have h5 := KA3.out.lt; omega)); have KA9 := hide (KA3.out.grown hg9 (fun e => HGF.out (HO3.out.mem _ e.symm))); clear ho9 hg9 hv9))
      go_roundw
      case rel => exact ⟨0 + 1, os ++ [a], F9, a, by omega, by rw [List.length_append, HOL.out]; rfl, by go_num, by rw [List.map_append]; exact HO9.out, HGF9.out, KA9.out, HAE.out, HS.out.step HGK.out ⟨⟨⟨F1.out, F2.out⟩, HSA.out⟩, fun p h0 => by omega⟩, fun j _ _ hj => by omega, fun _ => by rw [HY0.out]; exact F5.out, HB9.out⟩
      case measure => simp [intOf]; omega
    obtain ⟨j, rfl⟩ : ∃ j, k = j + 1 := ⟨k - 1, by omega⟩
    clear hk0
    have hwj : IntKind.i64.wrap (((j + 1 : Nat) : Int) - 1) = (j : Int) := by rw [show ((j + 1 : Nat) : Int) - 1 = (j : Int) by omega]; exact IntWalk.i64_in _ (by omega)
    have hkz : ((((j + 1 : Nat) : Int)) == 0) = false := beqI_f (by omega)
    have hgj := List.getElem?_eq_getElem (show j < x.fTempos.length by omega)
    obtain ⟨b2, off2, cs2, hA2, hb2, hcs2, hcell2⟩ := HX0.out j x.fTempos[j] hgj
    obtain ⟨rfl, rfl⟩ : b1 = b2 ∧ off = off2 := by injection hA2 with hA2; injection hA2 with e1 e2; exact ⟨e1, e2⟩
    clear hA2
    generalize hzz : x.fTempos[j] = v at *; clear hzz
    have HV := hide ((HS.out _ _ (by omega) hgj).1.1.1); have HGJ := hide hgj; clear hgj
    have i0 : (j : Int) < (x.fTempos.length : Int) := by omega
    have i3 : (0 : Int) < ((j + 1 : Nat) : Int) := by omega
    have HBr := hide (Below.refl w.heap.size w)
    obtain rfl := GTempo.rd_open (show T.rds _ _ _ by simpa only [GTempo.t, T.rd] using hcs2)
    have e0 := (HBr.out.cell hb2).trans (hcell2 0 (.int .i64 v.fBeat.fNum) rfl)
    have e1 := (HBr.out.cell hb2).trans (hcell2 1 (.int .i64 v.fBeat.fDen) rfl)
    have e2 := (HBr.out.cell hb2).trans (hcell2 2 (.int .i64 v.fSamples) rfl)
    rw [show off + (j * 3 + 0) = off + j * 3 by omega] at e0
    rw [show off + (j * 3 + 1) = off + j * 3 + 1 by omega] at e1
    rw [show off + (j * 3 + 2) = off + j * 3 + 2 by omega] at e2
    clear hcs2 hcell2
    have VC0 := hide e0; clear e0
    have VC1 := hide e1; clear e1
    have VC2 := hide e2; clear e2
    go_wp2_with (first | (go_at_call 138; refine (c_l02Ok y.fBeat _ _ GFrac.rd_mk).mono ?_; rintro e w2 ⟨rfl, hb⟩; rw [q1]; have HB2 := hide (bthen HB1.out HB1.out.size hb); have HO2 := hide (HO1.out.all hb); have KA2 := hide (KA1.out.below hb KA1.out.lt); have KX2 := hide (KX1.out.below hb KX1.out.lt); clear hb; clear cA lA fA cX lX fX; have cA := KA2.out.cell; have lA := KA2.out.lt; have fA := KA2.out.free; have cX := KX2.out.cell; have lX := KX2.out.lt; have fX := KX2.out.free; have p0 : w2.cell? ⟨b, o, none⟩ = some (.slice (some ⟨b1, off, none⟩) x.fTempos.length vc0) := (HB2.out.cell HL.out).trans (HCC.out 0 _ rfl); have lb : b < w2.heap.size := Nat.lt_of_lt_of_le HL.out HB2.out.size) | (go_at_call 186; refine (c_l17Beat y.fBeat _ _ F1.out GFrac.rd_mk).mono ?_; rintro e w3 ⟨rfl, hb⟩; rw [q2]; have HB3 := hide (bthen HB2.out HB2.out.size hb); have HO3 := hide (HO2.out.all hb); have KA3 := hide (KA2.out.below hb KA2.out.lt); have KX3 := hide (KX2.out.below hb KX2.out.lt); clear hb; clear cA lA fA cX lX fX; clear p0 lb; have cA := KA3.out.cell; have lA := KA3.out.lt; have fA := KA3.out.free; have cX := KX3.out.cell; have lX := KX3.out.lt; have fX := KX3.out.free; have p0 : w3.cell? ⟨b, o, none⟩ = some (.slice (some ⟨b1, off, none⟩) x.fTempos.length vc0) := (HB3.out.cell HL.out).trans (HCC.out 0 _ rfl); have lb : b < w3.heap.size := Nat.lt_of_lt_of_le HL.out HB3.out.size; have e0 : w3.cell? ⟨b1, off + j * 3, none⟩ = some (.int .i64 v.fBeat.fNum) := (HB3.out.cell hb2).trans (VC0.out); have e1 : w3.cell? ⟨b1, off + j * 3 + 1, none⟩ = some (.int .i64 v.fBeat.fDen) := (HB3.out.cell hb2).trans (VC1.out); have e2 : w3.cell? ⟨b1, off + j * 3 + 2, none⟩ = some (.int .i64 v.fSamples) := (HB3.out.cell hb2).trans (VC2.out); have lq3 : b1 < w3.heap.size := Nat.lt_of_lt_of_le hb2 HB3.out.size) | (go_at_call 56; refine (c_l00In _ _ _ _).mono ?_; rintro e w' ⟨rfl, rfl⟩))
    have hz3 := HB3.out.size; have HB4 := hide (HB3.out.alloc hz3 (.cells #[.int .i64 v.fBeat.fNum, .int .i64 v.fBeat.fDen, .int .i64 v.fSamples] 107)); have hbl3 := (show Below _ w3 (w3.alloc (.cells #[.int .i64 v.fBeat.fNum, .int .i64 v.fBeat.fDen, .int .i64 v.fSamples] 107)) from (Below.refl _ _).alloc (Nat.le_refl _) _)
    have HO4 := hide (HO3.out.all hbl3)
    have KA4 := hide (KA3.out.below hbl3 KA3.out.lt)
    have KX4 := hide (KX3.out.below hbl3 KX3.out.lt)
    have KL4 := hide (Bk.born w3 107 #[.int .i64 v.fBeat.fNum, .int .i64 v.fBeat.fDen, .int .i64 v.fSamples])
    generalize (w3.alloc (.cells #[.int .i64 v.fBeat.fNum, .int .i64 v.fBeat.fDen, .int .i64 v.fSamples] 107)) = W4 at *
    clear hbl3 hz3 p0 lb e0 e1 e2 lq3; clear cA lA fA cX lX fX
    obtain ⟨cc, hcc⟩ : ∃ cc, cmpFr v.fBeat y.fBeat = cc := ⟨_, rfl⟩
    have CP := hide (fun W => (by have := c_l02Compare v.fBeat y.fBeat W HV.out F1.out; rw [hcc] at this; exact this : Calls Tryz.prog 139 #[.agg #[.int .i64 v.fBeat.fNum, .int .i64 v.fBeat.fDen], .agg #[.int .i64 y.fBeat.fNum, .int .i64 y.fBeat.fDen]] W fun e w' => e = .returned (.int .i64 cc) ∧ Below W.heap.size W w'))
    have HCK := hide hcc; clear hcc
    refine (CP.out _).mono ?_; rintro e w5 ⟨rfl, hb⟩
    have HB5 := hide (bthen HB4.out HB4.out.size hb)
    have HO5 := hide (HO4.out.all hb)
    have KA5 := hide (KA4.out.below hb KA4.out.lt)
    have KX5 := hide (KX4.out.below hb KX4.out.lt)
    have KL5 := hide (KL4.out.below hb KL4.out.lt)
    clear hb
    have cA := KA5.out.cell; have lA := KA5.out.lt; have fA := KA5.out.free
    have cX := KX5.out.cell; have lX := KX5.out.lt; have fX := KX5.out.free
    have cL := KL5.out.cell; have lL := KL5.out.lt; have fL := KL5.out.free
    by_cases h5 : cc < 0
    rotate_left
    ·
      have k3 : (0 : Int) ≤ cc := by omega
      have H3 := hide h5; clear h5
      go_wp2
      refine bodyPost_ret (v := .tuple #[.slice none 0 0, .bool false]) (by simp [results, Tryz.results137, go_sem]) rfl ?_
      exact ⟨_, by rw [tf_no (fun h : TemposOk x.fTempos => by have q := H3.out; have r := (h.each (j + 1) y HGK.out).2 v (by omega) HGJ.out; rw [HCK.out] at r; omega)], by have hb := HB5.out; have hz := hb.size; exact (by repeat (first | with_reducible exact Below.refl _ _ | with_reducible assumption | with_reducible refine Below.setCell ?_ (by first | omega | (simp; done) | (simp; omega)) _ | with_reducible refine Below.alloc ?_ (by first | omega | (simp; done) | (simp; omega)) _ | with_reducible refine Below.drew ?_ | with_reducible refine below_drewN ?_ _ | exact Below.refl _ _ | assumption | refine Below.drew ?_ | refine below_drewN ?_ _ | refine Below.alloc ?_ (by first | omega | (simp; done) | (simp; omega)) _ | refine Below.setCell ?_ (by first | omega | (simp; done) | (simp; omega)) _))⟩
    have k3 : ¬ (0 : Int) ≤ cc := by omega
    have H3 := hide h5; clear h5
    go_wp2_with fail
    refine (c_l17On v.fBeat y.fBeat a v.fSamples _).mono ?_; rintro e w6 ⟨⟨n, d, rfl, hon⟩, hb⟩
    have HB6 := hide (bthen HB5.out HB5.out.size hb)
    have HO6 := hide (HO5.out.all hb)
    have KA6 := hide (KA5.out.below hb KA5.out.lt)
    have KX6 := hide (KX5.out.below hb KX5.out.lt)
    have KL6 := hide (KL5.out.below hb KL5.out.lt)
    clear hb; clear cA lA fA cX lX fX cL lL fL
    have HON := hide hon; clear hon
    have HCHN := hide (fun (h : TemposOk x.fTempos) => (chain_iff _ _).1 h.chain j v y (by omega) HGJ.out HGK.out)
    have HAE2 := hide (show a = stepFrom x.fTempos fr01 j from HAE.out)
    have HST := hide (stepFrom_at (a := fr01) HGJ.out HGK.out)
    rw [← HAE2.out] at HST HCHN
    have cA := KA6.out.cell; have lA := KA6.out.lt; have fA := KA6.out.free
    have cX := KX6.out.cell; have lX := KX6.out.lt; have fX := KX6.out.free
    have cL := KL6.out.cell; have lL := KL6.out.lt; have fL := KL6.out.free
    by_cases h6 : (onFr a v.fBeat y.fBeat v.fSamples).2 = 0
    rotate_left
    ·
      rw [decide_eq_false h6]; have N_ := hide h6; clear h6
      go_wp2
      refine bodyPost_ret (v := .tuple #[.slice none 0 0, .bool false]) (by simp [results, Tryz.results137, go_sem]) rfl ?_
      exact ⟨_, by rw [tf_no (fun h : TemposOk x.fTempos => N_.out (HCHN.out h))], by have hb := HB6.out; have hz := hb.size; exact (by repeat (first | with_reducible exact Below.refl _ _ | with_reducible assumption | with_reducible refine Below.setCell ?_ (by first | omega | (simp; done) | (simp; omega)) _ | with_reducible refine Below.alloc ?_ (by first | omega | (simp; done) | (simp; omega)) _ | with_reducible refine Below.drew ?_ | with_reducible refine below_drewN ?_ _ | exact Below.refl _ _ | assumption | refine Below.drew ?_ | refine below_drewN ?_ _ | refine Below.alloc ?_ (by first | omega | (simp; done) | (simp; omega)) _ | refine Below.setCell ?_ (by first | omega | (simp; done) | (simp; omega)) _))⟩
    have HON2 := hide (HON.out h6); have HOK := hide h6
    rw [decide_eq_true h6]; clear h6
    have HST2 := hide (show stepFrom x.fTempos fr01 (j + 1) = ⟨n, d⟩ by rw [HST.out, HON2.out])
    have HO7 := hide ((HO6.out.far_ HGF.out 0 (.int .i64 n)).far_ HGF.out 1 (.int .i64 d))
    have KA7 : Sec (Bk ((w6.setCell ⟨w.heap.size + 1, 0, none⟩ (.int .i64 n)).setCell ⟨w.heap.size + 1, 1, none⟩ (.int .i64 d)) (w.heap.size + 1) 64 #[.int .i64 n, .int .i64 d]) := hide (by have := Bk.set_ (Bk.set_ KA6.out 0 (.int .i64 n)) 1 (.int .i64 d); simpa using this)
    have HB7 := hide (Below.setCell (p := ⟨w.heap.size + 1, 1, none⟩) (Below.setCell (p := ⟨w.heap.size + 1, 0, none⟩) HB6.out (by dsimp only; omega) (.int .i64 n)) (by dsimp only; omega) (.int .i64 d))
    have HO8 := hide (HO7.out.all (show Below _ _ (((w6.setCell ⟨w.heap.size + 1, 0, none⟩ (.int .i64 n)).setCell ⟨w.heap.size + 1, 1, none⟩ (.int .i64 d)).alloc (.cells #[.int .i64 n, .int .i64 d] 64)) from (Below.refl _ _).alloc (Nat.le_refl _) _))
    have KA8 := hide (KA7.out.alloc (.cells #[.int .i64 n, .int .i64 d] 64))
    have HB8 := hide (HB7.out.alloc HB7.out.size (.cells #[.int .i64 n, .int .i64 d] 64))
    go_wp2_with (at_builtin; refine app1_T rfl _ _ _ rfl w.heap.size _ _ 2 16 Tryz.underlying65 info_FracS rfl (by omega) rfl HO8.out (x := GFrac.t ⟨n, d⟩) (T.ow_st GFrac.ow_mk) List.nodup_nil (fun b hb => by simp at hb) (fun b hb hb2 => by simp at hb2) rfl (by show Value.slice (some ⟨w6.heap.size + 1, 0, none⟩) 1 1 = _; simp [World.setCell]) (by rw [List.length_map]; have := HOL.out; omega) (by rw [List.length_map]; have := HOL.out; omega) HB8.out.size ?_; intro v9 w9 F9 ho9 hg9 hv9; have HO9 := hide ho9; have HB9 := hide (HO8.out.below HB8.out HB8.out.size hg9); have HGF9 := hide (show w.heap.size + 1 ∉ F9 from fun hm => by rcases hv9 _ hm with h | h | h; (· exact HGF.out h); (· simp at h); (· have h5 := KA8.out.lt; omega)); have KA9 := hide (KA8.out.grown hg9 (fun e => HGF.out (HO8.out.mem _ e.symm))); clear ho9 hg9 hv9)
    go_roundw
    case rel => exact ⟨j + 1 + 1, os ++ [⟨n, d⟩], F9, ⟨n, d⟩, by omega, by rw [List.length_append, HOL.out]; rfl, by go_num, by rw [List.map_append]; exact HO9.out, HGF9.out, KA9.out, by rw [Nat.add_sub_cancel]; exact HST2.out.symm, HS.out.step HGK.out ⟨⟨⟨F1.out, F2.out⟩, HSA.out⟩, fun p _ hp => by rw [Nat.add_sub_cancel, HGJ.out] at hp; injection hp with hp; rw [← hp, HCK.out]; exact H3.out⟩, fun i u z hi hu hz => by
        by_cases e : i + 1 < j + 1
        · exact HCH.out i u z e hu hz
        · obtain rfl : i = j := by omega
          rw [HGJ.out] at hu; rw [HGK.out] at hz; injection hu with hu; injection hz with hz; subst hu hz; rw [← HAE2.out]; exact HOK.out, fun _ => HFI.out (by omega), HB9.out⟩
    case measure => simp [intOf]; omega
set_option maxHeartbeats 2000000 in
set_option maxRecDepth 20000 in
theorem c_l17Ok (x : GTempoMap) (b o : Nat) (w : World) (h : T.at w x.fs b o) : Calls Tryz.prog 91 #[.pointer (some ⟨b, o, none⟩)] w fun e w' => e = .returned (.bool (tf (TemposOk x.fTempos))) ∧ Below w.heap.size w w' := by
  have HAT := hide h
  obtain ⟨hlt0, cs, hr, hc⟩ := h
  obtain ⟨v0, rfl, h0⟩ := GTempoMap.rd_open hr
  clear hr
  have R0 := hide h0; obtain ⟨va0, vc0, rfl, vl0, vm0, vx0⟩ := T.rd_openG h0
  have HX0 := hide vx0; clear vx0 h0
  have HL := hide hlt0; have HCC := hide hc; have HB0 := hide (Below.refl w.heap.size w); clear hlt0 hc
  go_enter Tryz.func91, Tryz.ntmps91
  go_wp2_with (go_at_call 137; refine (c_l17Positions x b o _ HAT.out).mono ?_; rintro e w2 ⟨v, rfl, hb⟩; have HB2 := hide hb; clear hb)
  go_ret
  exact ⟨rfl, HB2.out⟩
end Go.Proofs.YteiflbhcehajkaaGreatDoor
