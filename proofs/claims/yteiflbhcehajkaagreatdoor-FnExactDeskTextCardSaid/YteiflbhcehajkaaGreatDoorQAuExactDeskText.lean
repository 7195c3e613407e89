/- Contract: position, program. -/
import Derived.Test.YteiflbhcehajkaaGreatDoorQAoExactDeskText
import Derived.Test.YteiflbhcehajkaaGreatDoorQAqExactDeskText
import Derived.Test.YteiflbhcehajkaaGreatDoorQAtExactDeskText
set_option linter.unusedVariables false
set_option linter.unusedSimpArgs false
namespace Go.Proofs.YteiflbhcehajkaaGreatDoor
open Go.RowKit
theorem posGo_last {beat a : GFrac} {x : GTempo} {r : List GTempo} (h : ∀ y, r[0]? = some y → 0 < cmpFr y.fBeat beat) : posGo beat (x :: r) a = onFr a x.fBeat beat x.fSamples := by
  cases r with
  | nil => rfl
  | cons y r => simp only [posGo]; rw [if_pos (h y rfl)]
theorem posGo_more {beat a : GFrac} {x y : GTempo} {r : List GTempo} (hy : r[0]? = some y) (h : ¬ 0 < cmpFr y.fBeat beat) : posGo beat (x :: r) a = if (onFr a x.fBeat y.fBeat x.fSamples).2 ≠ 0 then onFr a x.fBeat y.fBeat x.fSamples else posGo beat r (onFr a x.fBeat y.fBeat x.fSamples).1 := by
  cases r with
  | nil => simp at hy
  | cons z r => obtain rfl : z = y := by simpa using hy
                simp only [posGo]; rw [if_neg h]
theorem onFr_1 {a x u : GFrac} {s c : Int} {f : GFrac} (h : subFr u x = (f, c)) (hc : c ≠ 0) : onFr a x u s = (a, c) := by unfold onFr; rw [h, if_pos hc]
theorem onFr_2 {a x u : GFrac} {s c : Int} {f f2 : GFrac} (h : subFr u x = (f, 0)) (h2 : mulFr f ⟨s, 1⟩ = (f2, c)) (hc : c ≠ 0) : onFr a x u s = (a, c) := by unfold onFr; rw [h, if_neg (by simp), h2, if_pos hc]
theorem onFr_3 {a x u : GFrac} {s : Int} {f f2 : GFrac} {r : GFrac × Int} (h : subFr u x = (f, 0)) (h2 : mulFr f ⟨s, 1⟩ = (f2, 0)) (h3 : addFr a f2 = r) : onFr a x u s = r := by unfold onFr; rw [h, if_neg (by simp), h2, if_neg (by simp), h3]
set_option maxHeartbeats 4000000 in
set_option maxRecDepth 100000 in
theorem c_position (l : List GTempo) (v : Value) (beat : GFrac) (w : World) (hr : T.rd w (T.sl 107 3 (l.map GTempo.t)) [v]) (hl : ∀ y ∈ l, fracOk y.fBeat ∧ 1 ≤ y.fSamples ∧ y.fSamples ≤ 1000) (hb : fracOk beat) (hn : l.length ≤ 1048576) : Calls Tryz.prog 147 #[.agg #[v], .agg #[.int .i64 beat.fNum, .int .i64 beat.fDen]] w fun e w' => e = .returned (.tuple #[.agg #[.int .i64 (posF l beat).1.fNum, .int .i64 (posF l beat).1.fDen], .int .i64 (posF l beat).2]) ∧ Below w.heap.size w w' := by
  obtain ⟨A, cap, rfl, hln, hc, hx⟩ := T.rd_openG hr; have HX := hide hx; clear hx hr
  have HL := hide hl; have HBT := hide hb; clear hl hb
  have HB0 := hide (show Below w.heap.size w ((((w.alloc (.cells #[.slice A l.length cap] 63)).alloc (.cells #[.int .i64 beat.fNum, .int .i64 beat.fDen] 64)).alloc (.cells #[.int .i64 0, .int .i64 0] 64)).alloc (.cells #[.int .i64 0, .int .i64 1] 64)) from (Below.alloc (Below.alloc (Below.alloc (Below.alloc (Below.refl w.heap.size w) (Nat.le_refl _) (.cells #[.slice A l.length cap] 63)) (by simp) (.cells #[.int .i64 beat.fNum, .int .i64 beat.fDen] 64)) (by simp; omega) (.cells #[.int .i64 0, .int .i64 0] 64)) (by simp; omega) (.cells #[.int .i64 0, .int .i64 1] 64)))
  have KT0 := hide ((((Bk.born w 63 #[.slice A l.length cap]).alloc (.cells #[.int .i64 beat.fNum, .int .i64 beat.fDen] 64)).alloc (.cells #[.int .i64 0, .int .i64 0] 64)).alloc (.cells #[.int .i64 0, .int .i64 1] 64))
  have KB0 := hide (((Bk.born1' w (.cells #[.slice A l.length cap] 63) 64 #[.int .i64 beat.fNum, .int .i64 beat.fDen]).alloc (.cells #[.int .i64 0, .int .i64 0] 64)).alloc (.cells #[.int .i64 0, .int .i64 1] 64))
  have KZ0 := hide ((Bk.born2 w (.cells #[.slice A l.length cap] 63) (.cells #[.int .i64 beat.fNum, .int .i64 beat.fDen] 64) 64 #[.int .i64 0, .int .i64 0]).alloc (.cells #[.int .i64 0, .int .i64 1] 64))
  have KA0 : Sec (Bk ((((w.alloc (.cells #[.slice A l.length cap] 63)).alloc (.cells #[.int .i64 beat.fNum, .int .i64 beat.fDen] 64)).alloc (.cells #[.int .i64 0, .int .i64 0] 64)).alloc (.cells #[.int .i64 0, .int .i64 1] 64)) (w.heap.size + 3) 64 #[.int .i64 0, .int .i64 1]) := hide (by have := Bk.born (((w.alloc (.cells #[.slice A l.length cap] 63)).alloc (.cells #[.int .i64 beat.fNum, .int .i64 beat.fDen] 64)).alloc (.cells #[.int .i64 0, .int .i64 0] 64)) 64 #[.int .i64 0, .int .i64 1]; simpa using this)
  go_enter Tryz.func147, Tryz.ntmps147
  go_wp2
  generalize ((((w.alloc (.cells #[.slice A l.length cap] 63)).alloc (.cells #[.int .i64 beat.fNum, .int .i64 beat.fDen] 64)).alloc (.cells #[.int .i64 0, .int .i64 0] 64)).alloc (.cells #[.int .i64 0, .int .i64 1] 64)) = W0 at *
  go_loopw [17] (fun i wr => ∃ (k : Nat) (a : GFrac), k ≤ l.length ∧ i = .int .i64 k ∧ posGo beat (l.drop k) a = posF l beat ∧ Bk wr w.heap.size 63 #[.slice A l.length cap] ∧ Bk wr (w.heap.size + 1) 64 #[.int .i64 beat.fNum, .int .i64 beat.fDen] ∧ Bk wr (w.heap.size + 2) 64 #[.int .i64 0, .int .i64 0] ∧ Bk wr (w.heap.size + 3) 64 #[.int .i64 a.fNum, .int .i64 a.fDen] ∧ Below w.heap.size w wr) (fun i _ => l.length - (intOf i).toNat)
  case atStart => exact ⟨0, fr01, Nat.zero_le _, rfl, rfl, KT0.out, KB0.out, KZ0.out, KA0.out, HB0.out⟩
  case round =>
    obtain ⟨k, a, hk, rfl, hp, kt, kb, kz, ka, hbw⟩ := hrel
    have HP := hide hp; have KT := hide kt; have KB := hide kb; have KZ := hide kz; have KA := hide ka; have HB := hide hbw; clear hp kt kb kz ka hbw HB0 KT0 KB0 KZ0 KA0
    have cT := KT.out.cell; have fT := KT.out.free; have lT := KT.out.lt
    have cB := KB.out.cell; have fB := KB.out.free; have lB := KB.out.lt
    have cZ := KZ.out.cell; have fZ := KZ.out.free; have lZ := KZ.out.lt
    have cA := KA.out.cell; have fA := KA.out.free; have lA := KA.out.lt
    by_cases hlt : k < l.length
    rotate_left
    ·
      have HE := hide (show posF l beat = (a, 0) by rw [← HP.out, List.drop_of_length_le (by omega)]; rfl)
      go_wp2
      refine bodyPost_ret (v := .tuple #[.agg #[.int .i64 a.fNum, .int .i64 a.fDen], .int .i64 0]) (by simp [results, Tryz.results147, go_sem, cZ, lZ, fZ]) rfl ?_
      rw [HE.out]; have hb := HB.out; exact ⟨rfl, (by repeat (first | with_reducible exact Below.refl _ _ | with_reducible assumption | with_reducible refine Below.setCell ?_ (by first | omega | (simp; done) | (simp; omega)) _ | with_reducible refine Below.alloc ?_ (by first | omega | (simp; done) | (simp; omega)) _ | with_reducible refine Below.drew ?_ | with_reducible refine below_drewN ?_ _ | exact Below.refl _ _ | assumption | refine Below.drew ?_ | refine below_drewN ?_ _ | refine Below.alloc ?_ (by first | omega | (simp; done) | (simp; omega)) _ | refine Below.setCell ?_ (by first | omega | (simp; done) | (simp; omega)) _))⟩
    have hgk := List.getElem?_eq_getElem hlt
    obtain ⟨b1, off, cs1, hA, hb1, hcs, hcell⟩ := HX.out k l[k] hgk
    subst hA
    have HD := hide (List.drop_eq_getElem_cons hlt)
    generalize l[k] = x at *
    have HXO := hide (HL.out x (List.mem_of_getElem? hgk)); clear hgk
    obtain rfl := GTempo.rd_open (show T.rds _ _ _ by simpa only [GTempo.t, T.rd] using hcs)
    have d0 := (HB.out.cell hb1).trans (hcell 0 (.int .i64 x.fBeat.fNum) rfl)
    have d1 := (HB.out.cell hb1).trans (hcell 1 (.int .i64 x.fBeat.fDen) rfl)
    have d2 := (HB.out.cell hb1).trans (hcell 2 (.int .i64 x.fSamples) rfl)
    rw [show off + (k * 3 + 0) = off + k * 3 by omega] at d0
    rw [show off + (k * 3 + 1) = off + k * 3 + 1 by omega] at d1
    rw [show off + (k * 3 + 2) = off + k * 3 + 2 by omega] at d2
    clear hcs hcell
    have hq1 : b1 < wr.heap.size := Nat.lt_of_lt_of_le hb1 HB.out.size
    have i1 : (k : Int) < (l.length : Int) := by omega
    have hwk : IntKind.i64.wrap ((k : Int) + 1) = (k : Int) + 1 := IntWalk.i64_in _ (by omega)
    by_cases hk1 : k + 1 = l.length
    ·
      have hk2 : (((k + 1 : Nat) : Int) == (l.length : Int)) = true := beqI_t (by omega)
      have hk3 : ((k : Int) + 1 == (l.length : Int)) = true := beqI_t (by omega)
      have HG := hide (show posF l beat = onFr a x.fBeat beat x.fSamples by rw [← HP.out, HD.out]; exact posGo_last (fun y hy => by rw [List.drop_of_length_le (by omega)] at hy; simp at hy))
      have h0 := HB.out.size
      have HB1 := hide ((HB.out.alloc h0 (.cells #[.int .i64 x.fBeat.fNum, .int .i64 x.fBeat.fDen, .int .i64 x.fSamples] 107)).alloc (by simp; omega) (.cells #[.int .i64 beat.fNum, .int .i64 beat.fDen] 64))
      have KT1 := hide ((KT.out.alloc (.cells #[.int .i64 x.fBeat.fNum, .int .i64 x.fBeat.fDen, .int .i64 x.fSamples] 107)).alloc (.cells #[.int .i64 beat.fNum, .int .i64 beat.fDen] 64))
      have KB1 := hide ((KB.out.alloc (.cells #[.int .i64 x.fBeat.fNum, .int .i64 x.fBeat.fDen, .int .i64 x.fSamples] 107)).alloc (.cells #[.int .i64 beat.fNum, .int .i64 beat.fDen] 64))
      have KZ1 := hide ((KZ.out.alloc (.cells #[.int .i64 x.fBeat.fNum, .int .i64 x.fBeat.fDen, .int .i64 x.fSamples] 107)).alloc (.cells #[.int .i64 beat.fNum, .int .i64 beat.fDen] 64))
      have KA1 := hide ((KA.out.alloc (.cells #[.int .i64 x.fBeat.fNum, .int .i64 x.fBeat.fDen, .int .i64 x.fSamples] 107)).alloc (.cells #[.int .i64 beat.fNum, .int .i64 beat.fDen] 64))
      have KX1 := hide ((Bk.born wr 107 #[.int .i64 x.fBeat.fNum, .int .i64 x.fBeat.fDen, .int .i64 x.fSamples]).alloc (.cells #[.int .i64 beat.fNum, .int .i64 beat.fDen] 64)); have KU1 := hide (Bk.born1' wr (.cells #[.int .i64 x.fBeat.fNum, .int .i64 x.fBeat.fDen, .int .i64 x.fSamples] 107) 64 #[.int .i64 beat.fNum, .int .i64 beat.fDen])
      have hw1 : wr.heap.size < ((wr.alloc (.cells #[.int .i64 x.fBeat.fNum, .int .i64 x.fBeat.fDen, .int .i64 x.fSamples] 107)).alloc (.cells #[.int .i64 beat.fNum, .int .i64 beat.fDen] 64)).heap.size := by simp; omega
      go_wp2
      generalize ((wr.alloc (.cells #[.int .i64 x.fBeat.fNum, .int .i64 x.fBeat.fDen, .int .i64 x.fSamples] 107)).alloc (.cells #[.int .i64 beat.fNum, .int .i64 beat.fDen] 64)) = W1 at *
      clear cT fT lT cB fB lB cZ fZ lZ cA fA lA
      have g0 := bel_bk KT1.out
      have g1 := bel_bk KB1.out
      have g2 := bel_bk KX1.out
      have g3 := bel_bk KU1.out
      refine wp_region_bel (by kernel_rfl) (by kernel_rfl) ?_
      repeat (first | go_big_quiet_skip | (go_big_quiet_want; go_big_quiet_op; first | go_big_quiet_on | (apply Exists.intro; refine ⟨fun _ => ?_, ?_⟩; (· (fail)); go_big_quiet_on)))
      refine wpQuiet_nil ?_
      rintro W2 ⟨uu, rfl⟩
      have hb9 := bel_below W1 uu
      generalize bel W1 uu = W2 at *
      have KT2 := hide (KT1.out.below hb9 KT1.out.lt)
      have KB2 := hide (KB1.out.below hb9 KB1.out.lt)
      have KZ2 := hide (KZ1.out.below hb9 KZ1.out.lt)
      have KA2 := hide (KA1.out.below hb9 KA1.out.lt)
      have KX2 := hide (KX1.out.below hb9 KX1.out.lt)
      have KU2 := hide (KU1.out.below hb9 KU1.out.lt)
      have HB2 := hide (bthen HB1.out HB1.out.size hb9); have hw2 := hb9.size; clear hb9 g0 g1 g2 g3
      have cT := KT2.out.cell; have fT := KT2.out.free; have lT := KT2.out.lt
      have cB := KB2.out.cell; have fB := KB2.out.free; have lB := KB2.out.lt
      have cZ := KZ2.out.cell; have fZ := KZ2.out.free; have lZ := KZ2.out.lt
      have cA := KA2.out.cell; have fA := KA2.out.free; have lA := KA2.out.lt
      have cX := KX2.out.cell; have fX := KX2.out.free; have lX := KX2.out.lt
      have cU := KU2.out.cell; have fU := KU2.out.free; have lU := KU2.out.lt
      obtain ⟨⟨n1, m1⟩, c1, hs1⟩ : ∃ f c, subFr beat x.fBeat = (f, c) := ⟨_, _, rfl⟩
      have CS := hide (fun W => (by have := c_SubFrac beat x.fBeat W; rw [hs1] at this; exact this : Calls Tryz.prog 193 #[.agg #[.int .i64 beat.fNum, .int .i64 beat.fDen], .agg #[.int .i64 x.fBeat.fNum, .int .i64 x.fBeat.fDen]] W fun e w' => e = .returned (.tuple #[.agg #[.int .i64 n1, .int .i64 m1], .int .i64 c1]) ∧ Below W.heap.size W w'))
      go_wp2_with fail
      refine (CS.out _).mono ?_; rintro e w3 ⟨rfl, hb⟩
      clear cT fT lT cB fB lB cZ fZ lZ cA fA lA cX fX lX cU fU lU
      have KT3 := hide (KT2.out.below hb KT2.out.lt)
      have KB3 := hide (KB2.out.below hb KB2.out.lt)
      have KZ3 := hide (KZ2.out.below hb KZ2.out.lt)
      have KA3 := hide (KA2.out.below hb KA2.out.lt)
      have KX3 := hide (KX2.out.below hb KX2.out.lt)
      have KU3 := hide (KU2.out.below hb KU2.out.lt)
      have HB3 := hide (bthen HB2.out HB2.out.size hb); have hw3 := hb.size; clear hb
      have cT := KT3.out.cell; have fT := KT3.out.free; have lT := KT3.out.lt
      have cB := KB3.out.cell; have fB := KB3.out.free; have lB := KB3.out.lt
      have cZ := KZ3.out.cell; have fZ := KZ3.out.free; have lZ := KZ3.out.lt
      have cA := KA3.out.cell; have fA := KA3.out.free; have lA := KA3.out.lt
      have cX := KX3.out.cell; have fX := KX3.out.free; have lX := KX3.out.lt
      have cU := KU3.out.cell; have fU := KU3.out.free; have lU := KU3.out.lt
      by_cases h1 : c1 = 0
      rotate_left
      ·
        have q1 : (c1 == 0) = false := beqI_f h1; have q1' : (c1 != 0) = true := bneI_t h1
        have HE := hide (show posF l beat = (a, c1) by rw [HG.out]; exact onFr_1 hs1 h1)
        clear h1
        go_wp2
        refine bodyPost_ret (v := .tuple #[.agg #[.int .i64 a.fNum, .int .i64 a.fDen], .int .i64 c1]) (by simp [results, Tryz.results147, go_sem, cZ, lZ, fZ]) rfl ?_
        rw [HE.out]; have hb := HB3.out; have hz := hb.size; exact ⟨rfl, (by repeat (first | with_reducible exact Below.refl _ _ | with_reducible assumption | with_reducible refine Below.setCell ?_ (by first | omega | (simp; done) | (simp; omega)) _ | with_reducible refine Below.alloc ?_ (by first | omega | (simp; done) | (simp; omega)) _ | with_reducible refine Below.drew ?_ | with_reducible refine below_drewN ?_ _ | exact Below.refl _ _ | assumption | refine Below.drew ?_ | refine below_drewN ?_ _ | refine Below.alloc ?_ (by first | omega | (simp; done) | (simp; omega)) _ | refine Below.setCell ?_ (by first | omega | (simp; done) | (simp; omega)) _))⟩
      subst h1
      clear cT fT lT cB fB lB cZ fZ lZ cA fA lA cX fX lX cU fU lU
      have h3 := HB3.out.size
      have HB4 := hide (HB3.out.alloc h3 (.cells #[.int .i64 n1, .int .i64 m1] 64))
      have KT4 := hide (KT3.out.alloc (.cells #[.int .i64 n1, .int .i64 m1] 64))
      have KB4 := hide (KB3.out.alloc (.cells #[.int .i64 n1, .int .i64 m1] 64))
      have KZ4 := hide (KZ3.out.alloc (.cells #[.int .i64 n1, .int .i64 m1] 64))
      have KA4 := hide (KA3.out.alloc (.cells #[.int .i64 n1, .int .i64 m1] 64))
      have KX4 := hide (KX3.out.alloc (.cells #[.int .i64 n1, .int .i64 m1] 64))
      have KU4 := hide (KU3.out.alloc (.cells #[.int .i64 n1, .int .i64 m1] 64))
      have KD4 := hide (Bk.born w3 64 #[.int .i64 n1, .int .i64 m1])
      have hw4 : w3.heap.size < (w3.alloc (.cells #[.int .i64 n1, .int .i64 m1] 64)).heap.size := by simp
      go_wp2
      generalize (w3.alloc (.cells #[.int .i64 n1, .int .i64 m1] 64)) = W4 at *
      obtain ⟨⟨n2, m2⟩, c2, hs2⟩ : ∃ f c, mulFr ⟨n1, m1⟩ ⟨x.fSamples, 1⟩ = (f, c) := ⟨_, _, rfl⟩
      have CM := hide (fun W => (by have := c_MulFrac ⟨n1, m1⟩ ⟨x.fSamples, 1⟩ W; rw [hs2] at this; exact this : Calls Tryz.prog 194 #[.agg #[.int .i64 n1, .int .i64 m1], .agg #[.int .i64 x.fSamples, .int .i64 1]] W fun e w' => e = .returned (.tuple #[.agg #[.int .i64 n2, .int .i64 m2], .int .i64 c2]) ∧ Below W.heap.size W w'))
      have cT := KT4.out.cell; have fT := KT4.out.free; have lT := KT4.out.lt
      have cB := KB4.out.cell; have fB := KB4.out.free; have lB := KB4.out.lt
      have cZ := KZ4.out.cell; have fZ := KZ4.out.free; have lZ := KZ4.out.lt
      have cA := KA4.out.cell; have fA := KA4.out.free; have lA := KA4.out.lt
      have cX := KX4.out.cell; have fX := KX4.out.free; have lX := KX4.out.lt
      have cU := KU4.out.cell; have fU := KU4.out.free; have lU := KU4.out.lt
      have cD := KD4.out.cell; have fD := KD4.out.free; have lD := KD4.out.lt
      refine wp_region_N (fun w' => (∀ i, w'.cell? ⟨wr.heap.size, i, none⟩ = #[.int .i64 x.fBeat.fNum, .int .i64 x.fBeat.fDen, .int .i64 x.fSamples][i]?) ∧ (∀ i, w'.cell? ⟨w3.heap.size, i, none⟩ = #[.int .i64 n1, .int .i64 m1][i]?)) [6, 7, 8, 9] (by kernel_rfl) ?_ (fun hS0 => ?_)
      · exact ⟨KX4.out.cell, KD4.out.cell⟩
      refine wpAnyN_take (i := 0) (oi := _) (v := ?v1) 6 (by kernel_rfl) (by kernel_rfl) rfl (by kernel_rfl) (by kernel_rfl) (by kernel_rfl) (fun _ _ _ h => h) hS0 (by rfl) ?hy1 ?rest1
      case hy1 => (intro w hSw; (try dsimp only at hSw); first | (go_simp; done) | (go_simp; with_reducible rfl))
      try simp only [Act.put, List.setIfInBounds_toArray, List.set_cons_zero, List.set_cons_succ]
      refine wpAnyN_take (i := 1) (oi := _) (v := ?v2) 6 (by kernel_rfl) (by kernel_rfl) rfl (by kernel_rfl) (by kernel_rfl) (by kernel_rfl) (fun _ _ _ h => h) hS0 (by rfl) ?hy2 ?rest2
      case hy2 => (intro w hSw; (try dsimp only at hSw); first | (go_simp; done) | (go_simp; with_reducible rfl))
      try simp only [Act.put, List.setIfInBounds_toArray, List.set_cons_zero, List.set_cons_succ]
      refine wpAnyN_take (i := 2) (oi := _) (v := ?v3) 6 (by kernel_rfl) (by kernel_rfl) rfl (by kernel_rfl) (by kernel_rfl) (by kernel_rfl) (fun _ _ _ h => h) hS0 (by rfl) ?hy3 ?rest3
      case hy3 => (intro w hSw; (try dsimp only at hSw); first | (go_simp; done) | (go_simp; with_reducible rfl))
      try simp only [Act.put, List.setIfInBounds_toArray, List.set_cons_zero, List.set_cons_succ]
      refine wpAnyN_one (i := 3) (o := _) (by kernel_rfl) rfl (fun K hK => ?_)
      go_simp
      go_wp2_with (go_at_call 149; refine (c_whole x.fSamples _).mono ?_; rintro e w5 ⟨rfl, hb⟩)
      have hb5 := undrew hb; clear hb; have KX5 := hide (KX4.out.below hb5 KX4.out.lt); have KD5 := hide (KD4.out.below hb5 KD4.out.lt); have HW5 := hide hb5; clear hb5
      refine hK.out _ _ ?_ (fun hS1 => ?_)
      · exact ⟨KX5.out.cell, KD5.out.cell⟩
      clear hK K hS0
      refine wpAnyN_one (i := 4) (o := _) (by kernel_rfl) rfl (fun K hK => ?_)
      go_simp
      go_wp2_with (go_at_call 194; refine (CM.out _).mono ?_; rintro e w6 ⟨rfl, hb⟩)
      have HW6 := hide (bthen HW5.out HW5.out.size hb); clear hb; have HB6 := hide (bthen HB4.out HB4.out.size HW6.out); have KT6 := hide (KT4.out.below HW6.out KT4.out.lt); have KB6 := hide (KB4.out.below HW6.out KB4.out.lt); have KZ6 := hide (KZ4.out.below HW6.out KZ4.out.lt); have KA6 := hide (KA4.out.below HW6.out KA4.out.lt); have KX6 := hide (KX4.out.below HW6.out KX4.out.lt); have KU6 := hide (KU4.out.below HW6.out KU4.out.lt); have KD6 := hide (KD4.out.below HW6.out KD4.out.lt)
      refine hK.out _ _ ?_ (fun hS2 => ?_)
      · exact ⟨KX6.out.cell, KD6.out.cell⟩
      clear hK K hS1
      refine wpAnyN_take (i := 5) (oi := _) (v := ?v4) 6 (by kernel_rfl) (by kernel_rfl) rfl (by kernel_rfl) (by kernel_rfl) (by kernel_rfl) (fun _ _ _ h => h) hS2 (by rfl) ?hy4 ?rest4
      case hy4 => (intro w hSw; (try dsimp only at hSw); first | (go_simp; done) | (go_simp; with_reducible rfl))
      try simp only [Act.put, List.setIfInBounds_toArray, List.set_cons_zero, List.set_cons_succ]
      refine wpAnyN_takeT (i := 6) (oi := _) (v := ?v5) (by decide) rfl (by kernel_rfl) (by kernel_rfl) (by kernel_rfl) (fun _ _ _ h => h) (by rfl) ?hy5 ?rest5
      case hy5 => (intro w; first | (go_simp; done) | (go_simp; with_reducible rfl))
      try simp only [Act.put, List.setIfInBounds_toArray, List.set_cons_zero, List.set_cons_succ]
      refine wpAnyN_takeT (i := 7) (oi := _) (v := ?v6) (by decide) rfl (by kernel_rfl) (by kernel_rfl) (by kernel_rfl) (fun _ _ _ h => h) (by rfl) ?hy6 ?rest6
      case hy6 => (intro w; first | (go_simp; done) | (go_simp; with_reducible rfl))
      try simp only [Act.put, List.setIfInBounds_toArray, List.set_cons_zero, List.set_cons_succ]
      clear cT fT lT cB fB lB cZ fZ lZ cA fA lA cX fX lX cU fU lU cD fD lD
      have cT := KT6.out.cell; have fT := KT6.out.free; have lT := KT6.out.lt
      have cB := KB6.out.cell; have fB := KB6.out.free; have lB := KB6.out.lt
      have cZ := KZ6.out.cell; have fZ := KZ6.out.free; have lZ := KZ6.out.lt
      have cA := KA6.out.cell; have fA := KA6.out.free; have lA := KA6.out.lt
      have cX := KX6.out.cell; have fX := KX6.out.free; have lX := KX6.out.lt
      have cU := KU6.out.cell; have fU := KU6.out.free; have lU := KU6.out.lt
      have cD := KD6.out.cell; have fD := KD6.out.free; have lD := KD6.out.lt
      refine wpAnyN_tail2 (i := 8) (j := 9) (o := _) (o2 := _) (by kernel_rfl) rfl (by kernel_rfl) rfl (by kernel_rfl) (by decide) (by decide) ?_
      have z3 := HB3.out.size; have z1 := HB.out.size
      have o1 := KT3.out.lt; have o2 := KB3.out.lt; have o3 := KZ3.out.lt; have o4 := KA3.out.lt; have o5 := KX3.out.lt; have o6 := KU3.out.lt
      by_cases h2 : c2 = 0
      rotate_left
      ·
        have q2 : (c2 == 0) = false := beqI_f h2; have q2' : (c2 != 0) = true := bneI_t h2
        have HE := hide (show posF l beat = (a, c2) by rw [HG.out]; exact onFr_2 hs1 hs2 h2); clear h2
        go_wp2
        refine bodyPost_ret (v := .tuple #[.agg #[.int .i64 a.fNum, .int .i64 a.fDen], .int .i64 c2]) (by simp [results, Tryz.results147, go_sem, cZ, lZ, fZ]) rfl ?_
        rw [HE.out]; have hb := HB6.out; have hz := hb.size; exact ⟨rfl, (by repeat (first | with_reducible exact Below.refl _ _ | with_reducible assumption | with_reducible refine Below.setCell ?_ (by first | omega | (simp; done) | (simp; omega)) _ | with_reducible refine Below.alloc ?_ (by first | omega | (simp; done) | (simp; omega)) _ | with_reducible refine Below.drew ?_ | with_reducible refine below_drewN ?_ _ | exact Below.refl _ _ | assumption | refine Below.drew ?_ | refine below_drewN ?_ _ | refine Below.alloc ?_ (by first | omega | (simp; done) | (simp; omega)) _ | refine Below.setCell ?_ (by first | omega | (simp; done) | (simp; omega)) _))⟩
      subst h2
      obtain ⟨⟨n3, m3⟩, c3, hs3⟩ : ∃ f c, addFr a ⟨n2, m2⟩ = (f, c) := ⟨_, _, rfl⟩
      have CA := hide (fun W => (by have := c_AddFrac a ⟨n2, m2⟩ W; rw [hs3] at this; exact this : Calls Tryz.prog 195 #[.agg #[.int .i64 a.fNum, .int .i64 a.fDen], .agg #[.int .i64 n2, .int .i64 m2]] W fun e w' => e = .returned (.tuple #[.agg #[.int .i64 n3, .int .i64 m3], .int .i64 c3]) ∧ Below W.heap.size W w'))
      go_wp2_with fail
      have KT7 := hide (Bk.far (Bk.far KT6.out (p := ⟨w3.heap.size, 0, none⟩) (by dsimp only; omega) (.int .i64 n2)) (p := ⟨w3.heap.size, 1, none⟩) (by dsimp only; omega) (.int .i64 m2))
      have KB7 := hide (Bk.far (Bk.far KB6.out (p := ⟨w3.heap.size, 0, none⟩) (by dsimp only; omega) (.int .i64 n2)) (p := ⟨w3.heap.size, 1, none⟩) (by dsimp only; omega) (.int .i64 m2))
      have KZ7 := hide (Bk.far (Bk.far KZ6.out (p := ⟨w3.heap.size, 0, none⟩) (by dsimp only; omega) (.int .i64 n2)) (p := ⟨w3.heap.size, 1, none⟩) (by dsimp only; omega) (.int .i64 m2))
      have KA7 := hide (Bk.far (Bk.far KA6.out (p := ⟨w3.heap.size, 0, none⟩) (by dsimp only; omega) (.int .i64 n2)) (p := ⟨w3.heap.size, 1, none⟩) (by dsimp only; omega) (.int .i64 m2))
      have KX7 := hide (Bk.far (Bk.far KX6.out (p := ⟨w3.heap.size, 0, none⟩) (by dsimp only; omega) (.int .i64 n2)) (p := ⟨w3.heap.size, 1, none⟩) (by dsimp only; omega) (.int .i64 m2))
      have KU7 := hide (Bk.far (Bk.far KU6.out (p := ⟨w3.heap.size, 0, none⟩) (by dsimp only; omega) (.int .i64 n2)) (p := ⟨w3.heap.size, 1, none⟩) (by dsimp only; omega) (.int .i64 m2))
      have HB7 := hide (Below.setCell (p := ⟨w3.heap.size, 1, none⟩) (Below.setCell (p := ⟨w3.heap.size, 0, none⟩) HB6.out (by dsimp only; omega) (.int .i64 n2)) (by dsimp only; omega) (.int .i64 m2))
      generalize ((w6.setCell ⟨w3.heap.size, 0, none⟩ (.int .i64 n2)).setCell ⟨w3.heap.size, 1, none⟩ (.int .i64 m2)) = W7 at *
      clear cT fT lT cB fB lB cZ fZ lZ cA fA lA cX fX lX cU fU lU cD fD lD
      refine (CA.out _).mono ?_; rintro e w8 ⟨rfl, hb⟩
      have KT8 := hide (KT7.out.below hb KT7.out.lt)
      have KB8 := hide (KB7.out.below hb KB7.out.lt)
      have KZ8 := hide (KZ7.out.below hb KZ7.out.lt)
      have KA8 := hide (KA7.out.below hb KA7.out.lt)
      have KX8 := hide (KX7.out.below hb KX7.out.lt)
      have KU8 := hide (KU7.out.below hb KU7.out.lt)
      have HB8 := hide (bthen HB7.out HB7.out.size hb); have z7 := HB7.out.size; have z8 := hb.size; clear hb
      have cT := KT8.out.cell; have fT := KT8.out.free; have lT := KT8.out.lt
      have cB := KB8.out.cell; have fB := KB8.out.free; have lB := KB8.out.lt
      have cZ := KZ8.out.cell; have fZ := KZ8.out.free; have lZ := KZ8.out.lt
      have cA := KA8.out.cell; have fA := KA8.out.free; have lA := KA8.out.lt
      have cX := KX8.out.cell; have fX := KX8.out.free; have lX := KX8.out.lt
      have cU := KU8.out.cell; have fU := KU8.out.free; have lU := KU8.out.lt
      have HO := hide (onFr_3 (a := a) hs1 hs2 hs3)
      by_cases h4 : c3 = 0
      rotate_left
      ·
        have q3 : (c3 != 0) = true := bneI_t h4
        have HE := hide (show posF l beat = (⟨n3, m3⟩, c3) by rw [HG.out, HO.out])
        clear h4
        go_wp2
        refine bodyPost_ret (v := .tuple #[.agg #[.int .i64 n3, .int .i64 m3], .int .i64 c3]) (by simp [results, Tryz.results147, go_sem, cZ, lZ, fZ]) rfl ?_
        rw [HE.out]; have hb := HB8.out; have hz := hb.size; exact ⟨rfl, (by repeat (first | with_reducible exact Below.refl _ _ | with_reducible assumption | with_reducible refine Below.setCell ?_ (by first | omega | (simp; done) | (simp; omega)) _ | with_reducible refine Below.alloc ?_ (by first | omega | (simp; done) | (simp; omega)) _ | with_reducible refine Below.drew ?_ | with_reducible refine below_drewN ?_ _ | exact Below.refl _ _ | assumption | refine Below.drew ?_ | refine below_drewN ?_ _ | refine Below.alloc ?_ (by first | omega | (simp; done) | (simp; omega)) _ | refine Below.setCell ?_ (by first | omega | (simp; done) | (simp; omega)) _))⟩
      have q3 : (c3 != 0) = false := bneI_f h4
      have HE := hide (show posF l beat = (⟨n3, m3⟩, c3) by rw [HG.out, HO.out]); clear h4
      go_wp2
      refine bodyPost_ret (v := .tuple #[.agg #[.int .i64 n3, .int .i64 m3], .int .i64 c3]) (by simp [results, Tryz.results147, go_sem, cZ, lZ, fZ]) rfl ?_
      rw [HE.out]; have hb := HB8.out; have hz := hb.size; exact ⟨rfl, (by repeat (first | with_reducible exact Below.refl _ _ | with_reducible assumption | with_reducible refine Below.setCell ?_ (by first | omega | (simp; done) | (simp; omega)) _ | with_reducible refine Below.alloc ?_ (by first | omega | (simp; done) | (simp; omega)) _ | with_reducible refine Below.drew ?_ | with_reducible refine below_drewN ?_ _ | exact Below.refl _ _ | assumption | refine Below.drew ?_ | refine below_drewN ?_ _ | refine Below.alloc ?_ (by first | omega | (simp; done) | (simp; omega)) _ | refine Below.setCell ?_ (by first | omega | (simp; done) | (simp; omega)) _))⟩
    have hk3 : ((k : Int) + 1 == (l.length : Int)) = false := beqI_f (by omega)
    have hly : k + 1 < l.length := by omega
    have hgy := List.getElem?_eq_getElem hly
    obtain ⟨b2, off2, cs2, hA2, hb2, hcs2, hcell2⟩ := HX.out (k + 1) l[k + 1] hgy
    obtain ⟨rfl, rfl⟩ : b1 = b2 ∧ off = off2 := by injection hA2 with hA2; injection hA2 with e1 e2; exact ⟨e1, e2⟩
    clear hA2
    have HDY := hide (show (l.drop (k + 1))[0]? = some l[k + 1] by rw [List.getElem?_drop]; exact hgy)
    generalize l[k + 1] = y at *
    have HYO := hide (HL.out y (List.mem_of_getElem? hgy)); clear hgy
    have htn : ((k : Int) + 1).toNat = k + 1 := by omega
    have i2 : (k : Int) + 1 < (l.length : Int) := by omega
    have i3 : (0 : Int) ≤ (k : Int) + 1 := by omega
    obtain ⟨cc, hcc⟩ : ∃ cc, cmpFr y.fBeat beat = cc := ⟨_, rfl⟩
    have CC := hide (fun W => (by have := c_compare y.fBeat beat W HYO.out.1 HBT.out; rw [hcc] at this; exact this : Calls Tryz.prog 146 #[.agg #[.int .i64 y.fBeat.fNum, .int .i64 y.fBeat.fDen], .agg #[.int .i64 beat.fNum, .int .i64 beat.fDen]] W fun e w' => e = .returned (.int .i64 cc) ∧ Below W.heap.size W w'))
    by_cases hcp : 0 < cc
    ·
      have kcp : decide (0 < cc) = true := decide_eq_true hcp
      have HG := hide (show posF l beat = onFr a x.fBeat beat x.fSamples by rw [← HP.out, HD.out]; exact posGo_last (fun z hz => by rw [HDY.out] at hz; injection hz with hz; rw [← hz, hcc]; exact hcp)); clear hcc hcp
      have h0 := HB.out.size
      have HB1 := hide ((HB.out.alloc h0 (.cells #[.int .i64 x.fBeat.fNum, .int .i64 x.fBeat.fDen, .int .i64 x.fSamples] 107)).alloc (by simp; omega) (.cells #[.int .i64 beat.fNum, .int .i64 beat.fDen] 64))
      have KT1 := hide ((KT.out.alloc (.cells #[.int .i64 x.fBeat.fNum, .int .i64 x.fBeat.fDen, .int .i64 x.fSamples] 107)).alloc (.cells #[.int .i64 beat.fNum, .int .i64 beat.fDen] 64))
      have KB1 := hide ((KB.out.alloc (.cells #[.int .i64 x.fBeat.fNum, .int .i64 x.fBeat.fDen, .int .i64 x.fSamples] 107)).alloc (.cells #[.int .i64 beat.fNum, .int .i64 beat.fDen] 64))
      have KZ1 := hide ((KZ.out.alloc (.cells #[.int .i64 x.fBeat.fNum, .int .i64 x.fBeat.fDen, .int .i64 x.fSamples] 107)).alloc (.cells #[.int .i64 beat.fNum, .int .i64 beat.fDen] 64))
      have KA1 := hide ((KA.out.alloc (.cells #[.int .i64 x.fBeat.fNum, .int .i64 x.fBeat.fDen, .int .i64 x.fSamples] 107)).alloc (.cells #[.int .i64 beat.fNum, .int .i64 beat.fDen] 64))
      have KX1 := hide ((Bk.born wr 107 #[.int .i64 x.fBeat.fNum, .int .i64 x.fBeat.fDen, .int .i64 x.fSamples]).alloc (.cells #[.int .i64 beat.fNum, .int .i64 beat.fDen] 64)); have KU1 := hide (Bk.born1' wr (.cells #[.int .i64 x.fBeat.fNum, .int .i64 x.fBeat.fDen, .int .i64 x.fSamples] 107) 64 #[.int .i64 beat.fNum, .int .i64 beat.fDen])
      have hw1 : wr.heap.size < ((wr.alloc (.cells #[.int .i64 x.fBeat.fNum, .int .i64 x.fBeat.fDen, .int .i64 x.fSamples] 107)).alloc (.cells #[.int .i64 beat.fNum, .int .i64 beat.fDen] 64)).heap.size := by simp; omega
      go_wp2
      generalize ((wr.alloc (.cells #[.int .i64 x.fBeat.fNum, .int .i64 x.fBeat.fDen, .int .i64 x.fSamples] 107)).alloc (.cells #[.int .i64 beat.fNum, .int .i64 beat.fDen] 64)) = W1 at *
      clear cT fT lT cB fB lB cZ fZ lZ cA fA lA
      obtain rfl := GTempo.rd_open (show T.rds _ _ _ by simpa only [GTempo.t, T.rd] using hcs2)
      have y0 := (HB1.out.cell hb2).trans (hcell2 0 (.int .i64 y.fBeat.fNum) rfl)
      have y1 := (HB1.out.cell hb2).trans (hcell2 1 (.int .i64 y.fBeat.fDen) rfl)
      have y2 := (HB1.out.cell hb2).trans (hcell2 2 (.int .i64 y.fSamples) rfl)
      rw [show off + ((k + 1) * 3 + 0) = off + (k + 1) * 3 by omega] at y0
      rw [show off + ((k + 1) * 3 + 1) = off + (k + 1) * 3 + 1 by omega] at y1
      rw [show off + ((k + 1) * 3 + 2) = off + (k + 1) * 3 + 2 by omega] at y2
      clear hcs2 hcell2
      have lq1 : b1 < W1.heap.size := Nat.lt_of_lt_of_le hb2 HB1.out.size
      have g0 := bel_bk KT1.out
      have g1 := bel_bk KB1.out
      have g2 := bel_bk KX1.out
      have g3 := bel_bk KU1.out
      have g4 := bel_cell y0
      have g5 := bel_cell y1
      have g6 := bel_cell y2
      refine wp_region_bel (by kernel_rfl) (by kernel_rfl) ?_
      repeat (first | go_big_quiet_skip | (go_big_quiet_want; go_big_quiet_op; first | go_big_quiet_on | (apply Exists.intro; refine ⟨fun _ => ?_, ?_⟩; (· (go_at_call 146; exact Calls.quiet_bel (CC.out _))); go_big_quiet_on)))
      refine wpQuiet_nil ?_
      rintro W2 ⟨uu, rfl⟩
      have hb9 := bel_below W1 uu
      generalize bel W1 uu = W2 at *
      have KT2 := hide (KT1.out.below hb9 KT1.out.lt)
      have KB2 := hide (KB1.out.below hb9 KB1.out.lt)
      have KZ2 := hide (KZ1.out.below hb9 KZ1.out.lt)
      have KA2 := hide (KA1.out.below hb9 KA1.out.lt)
      have KX2 := hide (KX1.out.below hb9 KX1.out.lt)
      have KU2 := hide (KU1.out.below hb9 KU1.out.lt)
      have y02 := (hb9.cell lq1).trans y0
      have y12 := (hb9.cell lq1).trans y1
      have y22 := (hb9.cell lq1).trans y2
      have HB2 := hide (bthen HB1.out HB1.out.size hb9); have hw2 := hb9.size; clear hb9 g0 g1 g2 g3 g4 g5 g6
      have cT := KT2.out.cell; have fT := KT2.out.free; have lT := KT2.out.lt
      have cB := KB2.out.cell; have fB := KB2.out.free; have lB := KB2.out.lt
      have cZ := KZ2.out.cell; have fZ := KZ2.out.free; have lZ := KZ2.out.lt
      have cA := KA2.out.cell; have fA := KA2.out.free; have lA := KA2.out.lt
      have cX := KX2.out.cell; have fX := KX2.out.free; have lX := KX2.out.lt
      have cU := KU2.out.cell; have fU := KU2.out.free; have lU := KU2.out.lt
      obtain ⟨⟨n1, m1⟩, c1, hs1⟩ : ∃ f c, subFr beat x.fBeat = (f, c) := ⟨_, _, rfl⟩
      have CS := hide (fun W => (by have := c_SubFrac beat x.fBeat W; rw [hs1] at this; exact this : Calls Tryz.prog 193 #[.agg #[.int .i64 beat.fNum, .int .i64 beat.fDen], .agg #[.int .i64 x.fBeat.fNum, .int .i64 x.fBeat.fDen]] W fun e w' => e = .returned (.tuple #[.agg #[.int .i64 n1, .int .i64 m1], .int .i64 c1]) ∧ Below W.heap.size W w'))
      go_wp2_with fail
      refine (CS.out _).mono ?_; rintro e w3 ⟨rfl, hb⟩
      clear cT fT lT cB fB lB cZ fZ lZ cA fA lA cX fX lX cU fU lU
      have KT3 := hide (KT2.out.below hb KT2.out.lt)
      have KB3 := hide (KB2.out.below hb KB2.out.lt)
      have KZ3 := hide (KZ2.out.below hb KZ2.out.lt)
      have KA3 := hide (KA2.out.below hb KA2.out.lt)
      have KX3 := hide (KX2.out.below hb KX2.out.lt)
      have KU3 := hide (KU2.out.below hb KU2.out.lt)
      have HB3 := hide (bthen HB2.out HB2.out.size hb); have hw3 := hb.size; clear hb
      have cT := KT3.out.cell; have fT := KT3.out.free; have lT := KT3.out.lt
      have cB := KB3.out.cell; have fB := KB3.out.free; have lB := KB3.out.lt
      have cZ := KZ3.out.cell; have fZ := KZ3.out.free; have lZ := KZ3.out.lt
      have cA := KA3.out.cell; have fA := KA3.out.free; have lA := KA3.out.lt
      have cX := KX3.out.cell; have fX := KX3.out.free; have lX := KX3.out.lt
      have cU := KU3.out.cell; have fU := KU3.out.free; have lU := KU3.out.lt
      by_cases h1 : c1 = 0
      rotate_left
      ·
        have q1 : (c1 == 0) = false := beqI_f h1; have q1' : (c1 != 0) = true := bneI_t h1
        have HE := hide (show posF l beat = (a, c1) by rw [HG.out]; exact onFr_1 hs1 h1)
        clear h1
        go_wp2
        refine bodyPost_ret (v := .tuple #[.agg #[.int .i64 a.fNum, .int .i64 a.fDen], .int .i64 c1]) (by simp [results, Tryz.results147, go_sem, cZ, lZ, fZ]) rfl ?_
        rw [HE.out]; have hb := HB3.out; have hz := hb.size; exact ⟨rfl, (by repeat (first | with_reducible exact Below.refl _ _ | with_reducible assumption | with_reducible refine Below.setCell ?_ (by first | omega | (simp; done) | (simp; omega)) _ | with_reducible refine Below.alloc ?_ (by first | omega | (simp; done) | (simp; omega)) _ | with_reducible refine Below.drew ?_ | with_reducible refine below_drewN ?_ _ | exact Below.refl _ _ | assumption | refine Below.drew ?_ | refine below_drewN ?_ _ | refine Below.alloc ?_ (by first | omega | (simp; done) | (simp; omega)) _ | refine Below.setCell ?_ (by first | omega | (simp; done) | (simp; omega)) _))⟩
      subst h1
      clear cT fT lT cB fB lB cZ fZ lZ cA fA lA cX fX lX cU fU lU
      have h3 := HB3.out.size
      have HB4 := hide (HB3.out.alloc h3 (.cells #[.int .i64 n1, .int .i64 m1] 64))
      have KT4 := hide (KT3.out.alloc (.cells #[.int .i64 n1, .int .i64 m1] 64))
      have KB4 := hide (KB3.out.alloc (.cells #[.int .i64 n1, .int .i64 m1] 64))
      have KZ4 := hide (KZ3.out.alloc (.cells #[.int .i64 n1, .int .i64 m1] 64))
      have KA4 := hide (KA3.out.alloc (.cells #[.int .i64 n1, .int .i64 m1] 64))
      have KX4 := hide (KX3.out.alloc (.cells #[.int .i64 n1, .int .i64 m1] 64))
      have KU4 := hide (KU3.out.alloc (.cells #[.int .i64 n1, .int .i64 m1] 64))
      have KD4 := hide (Bk.born w3 64 #[.int .i64 n1, .int .i64 m1])
      have hw4 : w3.heap.size < (w3.alloc (.cells #[.int .i64 n1, .int .i64 m1] 64)).heap.size := by simp
      go_wp2
      generalize (w3.alloc (.cells #[.int .i64 n1, .int .i64 m1] 64)) = W4 at *
      obtain ⟨⟨n2, m2⟩, c2, hs2⟩ : ∃ f c, mulFr ⟨n1, m1⟩ ⟨x.fSamples, 1⟩ = (f, c) := ⟨_, _, rfl⟩
      have CM := hide (fun W => (by have := c_MulFrac ⟨n1, m1⟩ ⟨x.fSamples, 1⟩ W; rw [hs2] at this; exact this : Calls Tryz.prog 194 #[.agg #[.int .i64 n1, .int .i64 m1], .agg #[.int .i64 x.fSamples, .int .i64 1]] W fun e w' => e = .returned (.tuple #[.agg #[.int .i64 n2, .int .i64 m2], .int .i64 c2]) ∧ Below W.heap.size W w'))
      have cT := KT4.out.cell; have fT := KT4.out.free; have lT := KT4.out.lt
      have cB := KB4.out.cell; have fB := KB4.out.free; have lB := KB4.out.lt
      have cZ := KZ4.out.cell; have fZ := KZ4.out.free; have lZ := KZ4.out.lt
      have cA := KA4.out.cell; have fA := KA4.out.free; have lA := KA4.out.lt
      have cX := KX4.out.cell; have fX := KX4.out.free; have lX := KX4.out.lt
      have cU := KU4.out.cell; have fU := KU4.out.free; have lU := KU4.out.lt
      have cD := KD4.out.cell; have fD := KD4.out.free; have lD := KD4.out.lt
      refine wp_region_N (fun w' => (∀ i, w'.cell? ⟨wr.heap.size, i, none⟩ = #[.int .i64 x.fBeat.fNum, .int .i64 x.fBeat.fDen, .int .i64 x.fSamples][i]?) ∧ (∀ i, w'.cell? ⟨w3.heap.size, i, none⟩ = #[.int .i64 n1, .int .i64 m1][i]?)) [6, 7, 8, 9] (by kernel_rfl) ?_ (fun hS0 => ?_)
      · exact ⟨KX4.out.cell, KD4.out.cell⟩
      refine wpAnyN_take (i := 0) (oi := _) (v := ?v7) 6 (by kernel_rfl) (by kernel_rfl) rfl (by kernel_rfl) (by kernel_rfl) (by kernel_rfl) (fun _ _ _ h => h) hS0 (by rfl) ?hy7 ?rest7
      case hy7 => (intro w hSw; (try dsimp only at hSw); first | (go_simp; done) | (go_simp; with_reducible rfl))
      try simp only [Act.put, List.setIfInBounds_toArray, List.set_cons_zero, List.set_cons_succ]
      refine wpAnyN_take (i := 1) (oi := _) (v := ?v8) 6 (by kernel_rfl) (by kernel_rfl) rfl (by kernel_rfl) (by kernel_rfl) (by kernel_rfl) (fun _ _ _ h => h) hS0 (by rfl) ?hy8 ?rest8
      case hy8 => (intro w hSw; (try dsimp only at hSw); first | (go_simp; done) | (go_simp; with_reducible rfl))
      try simp only [Act.put, List.setIfInBounds_toArray, List.set_cons_zero, List.set_cons_succ]
      refine wpAnyN_take (i := 2) (oi := _) (v := ?v9) 6 (by kernel_rfl) (by kernel_rfl) rfl (by kernel_rfl) (by kernel_rfl) (by kernel_rfl) (fun _ _ _ h => h) hS0 (by rfl) ?hy9 ?rest9
      case hy9 => (intro w hSw; (try dsimp only at hSw); first | (go_simp; done) | (go_simp; with_reducible rfl))
      try simp only [Act.put, List.setIfInBounds_toArray, List.set_cons_zero, List.set_cons_succ]
      refine wpAnyN_one (i := 3) (o := _) (by kernel_rfl) rfl (fun K hK => ?_)
      go_simp
      go_wp2_with (go_at_call 149; refine (c_whole x.fSamples _).mono ?_; rintro e w5 ⟨rfl, hb⟩)
      have hb5 := undrew hb; clear hb; have KX5 := hide (KX4.out.below hb5 KX4.out.lt); have KD5 := hide (KD4.out.below hb5 KD4.out.lt); have HW5 := hide hb5; clear hb5
      refine hK.out _ _ ?_ (fun hS1 => ?_)
      · exact ⟨KX5.out.cell, KD5.out.cell⟩
      clear hK K hS0
      refine wpAnyN_one (i := 4) (o := _) (by kernel_rfl) rfl (fun K hK => ?_)
      go_simp
      go_wp2_with (go_at_call 194; refine (CM.out _).mono ?_; rintro e w6 ⟨rfl, hb⟩)
      have HW6 := hide (bthen HW5.out HW5.out.size hb); clear hb; have HB6 := hide (bthen HB4.out HB4.out.size HW6.out); have KT6 := hide (KT4.out.below HW6.out KT4.out.lt); have KB6 := hide (KB4.out.below HW6.out KB4.out.lt); have KZ6 := hide (KZ4.out.below HW6.out KZ4.out.lt); have KA6 := hide (KA4.out.below HW6.out KA4.out.lt); have KX6 := hide (KX4.out.below HW6.out KX4.out.lt); have KU6 := hide (KU4.out.below HW6.out KU4.out.lt); have KD6 := hide (KD4.out.below HW6.out KD4.out.lt)
      refine hK.out _ _ ?_ (fun hS2 => ?_)
      · exact ⟨KX6.out.cell, KD6.out.cell⟩
      clear hK K hS1
      refine wpAnyN_take (i := 5) (oi := _) (v := ?v10) 6 (by kernel_rfl) (by kernel_rfl) rfl (by kernel_rfl) (by kernel_rfl) (by kernel_rfl) (fun _ _ _ h => h) hS2 (by rfl) ?hy10 ?rest10
      case hy10 => (intro w hSw; (try dsimp only at hSw); first | (go_simp; done) | (go_simp; with_reducible rfl))
      try simp only [Act.put, List.setIfInBounds_toArray, List.set_cons_zero, List.set_cons_succ]
      refine wpAnyN_takeT (i := 6) (oi := _) (v := ?v11) (by decide) rfl (by kernel_rfl) (by kernel_rfl) (by kernel_rfl) (fun _ _ _ h => h) (by rfl) ?hy11 ?rest11
      case hy11 => (intro w; first | (go_simp; done) | (go_simp; with_reducible rfl))
      try simp only [Act.put, List.setIfInBounds_toArray, List.set_cons_zero, List.set_cons_succ]
      refine wpAnyN_takeT (i := 7) (oi := _) (v := ?v12) (by decide) rfl (by kernel_rfl) (by kernel_rfl) (by kernel_rfl) (fun _ _ _ h => h) (by rfl) ?hy12 ?rest12
      case hy12 => (intro w; first | (go_simp; done) | (go_simp; with_reducible rfl))
      try simp only [Act.put, List.setIfInBounds_toArray, List.set_cons_zero, List.set_cons_succ]
      clear cT fT lT cB fB lB cZ fZ lZ cA fA lA cX fX lX cU fU lU cD fD lD
      have cT := KT6.out.cell; have fT := KT6.out.free; have lT := KT6.out.lt
      have cB := KB6.out.cell; have fB := KB6.out.free; have lB := KB6.out.lt
      have cZ := KZ6.out.cell; have fZ := KZ6.out.free; have lZ := KZ6.out.lt
      have cA := KA6.out.cell; have fA := KA6.out.free; have lA := KA6.out.lt
      have cX := KX6.out.cell; have fX := KX6.out.free; have lX := KX6.out.lt
      have cU := KU6.out.cell; have fU := KU6.out.free; have lU := KU6.out.lt
      have cD := KD6.out.cell; have fD := KD6.out.free; have lD := KD6.out.lt
      refine wpAnyN_tail2 (i := 8) (j := 9) (o := _) (o2 := _) (by kernel_rfl) rfl (by kernel_rfl) rfl (by kernel_rfl) (by decide) (by decide) ?_
      have z3 := HB3.out.size; have z1 := HB.out.size
      have o1 := KT3.out.lt; have o2 := KB3.out.lt; have o3 := KZ3.out.lt; have o4 := KA3.out.lt; have o5 := KX3.out.lt; have o6 := KU3.out.lt
      by_cases h2 : c2 = 0
      rotate_left
      ·
        have q2 : (c2 == 0) = false := beqI_f h2; have q2' : (c2 != 0) = true := bneI_t h2
        have HE := hide (show posF l beat = (a, c2) by rw [HG.out]; exact onFr_2 hs1 hs2 h2); clear h2
        go_wp2
        refine bodyPost_ret (v := .tuple #[.agg #[.int .i64 a.fNum, .int .i64 a.fDen], .int .i64 c2]) (by simp [results, Tryz.results147, go_sem, cZ, lZ, fZ]) rfl ?_
        rw [HE.out]; have hb := HB6.out; have hz := hb.size; exact ⟨rfl, (by repeat (first | with_reducible exact Below.refl _ _ | with_reducible assumption | with_reducible refine Below.setCell ?_ (by first | omega | (simp; done) | (simp; omega)) _ | with_reducible refine Below.alloc ?_ (by first | omega | (simp; done) | (simp; omega)) _ | with_reducible refine Below.drew ?_ | with_reducible refine below_drewN ?_ _ | exact Below.refl _ _ | assumption | refine Below.drew ?_ | refine below_drewN ?_ _ | refine Below.alloc ?_ (by first | omega | (simp; done) | (simp; omega)) _ | refine Below.setCell ?_ (by first | omega | (simp; done) | (simp; omega)) _))⟩
      subst h2
      obtain ⟨⟨n3, m3⟩, c3, hs3⟩ : ∃ f c, addFr a ⟨n2, m2⟩ = (f, c) := ⟨_, _, rfl⟩
      have CA := hide (fun W => (by have := c_AddFrac a ⟨n2, m2⟩ W; rw [hs3] at this; exact this : Calls Tryz.prog 195 #[.agg #[.int .i64 a.fNum, .int .i64 a.fDen], .agg #[.int .i64 n2, .int .i64 m2]] W fun e w' => e = .returned (.tuple #[.agg #[.int .i64 n3, .int .i64 m3], .int .i64 c3]) ∧ Below W.heap.size W w'))
      go_wp2_with fail
      have KT7 := hide (Bk.far (Bk.far KT6.out (p := ⟨w3.heap.size, 0, none⟩) (by dsimp only; omega) (.int .i64 n2)) (p := ⟨w3.heap.size, 1, none⟩) (by dsimp only; omega) (.int .i64 m2))
      have KB7 := hide (Bk.far (Bk.far KB6.out (p := ⟨w3.heap.size, 0, none⟩) (by dsimp only; omega) (.int .i64 n2)) (p := ⟨w3.heap.size, 1, none⟩) (by dsimp only; omega) (.int .i64 m2))
      have KZ7 := hide (Bk.far (Bk.far KZ6.out (p := ⟨w3.heap.size, 0, none⟩) (by dsimp only; omega) (.int .i64 n2)) (p := ⟨w3.heap.size, 1, none⟩) (by dsimp only; omega) (.int .i64 m2))
      have KA7 := hide (Bk.far (Bk.far KA6.out (p := ⟨w3.heap.size, 0, none⟩) (by dsimp only; omega) (.int .i64 n2)) (p := ⟨w3.heap.size, 1, none⟩) (by dsimp only; omega) (.int .i64 m2))
      have KX7 := hide (Bk.far (Bk.far KX6.out (p := ⟨w3.heap.size, 0, none⟩) (by dsimp only; omega) (.int .i64 n2)) (p := ⟨w3.heap.size, 1, none⟩) (by dsimp only; omega) (.int .i64 m2))
      have KU7 := hide (Bk.far (Bk.far KU6.out (p := ⟨w3.heap.size, 0, none⟩) (by dsimp only; omega) (.int .i64 n2)) (p := ⟨w3.heap.size, 1, none⟩) (by dsimp only; omega) (.int .i64 m2))
      have HB7 := hide (Below.setCell (p := ⟨w3.heap.size, 1, none⟩) (Below.setCell (p := ⟨w3.heap.size, 0, none⟩) HB6.out (by dsimp only; omega) (.int .i64 n2)) (by dsimp only; omega) (.int .i64 m2))
      generalize ((w6.setCell ⟨w3.heap.size, 0, none⟩ (.int .i64 n2)).setCell ⟨w3.heap.size, 1, none⟩ (.int .i64 m2)) = W7 at *
      clear cT fT lT cB fB lB cZ fZ lZ cA fA lA cX fX lX cU fU lU cD fD lD
      refine (CA.out _).mono ?_; rintro e w8 ⟨rfl, hb⟩
      have KT8 := hide (KT7.out.below hb KT7.out.lt)
      have KB8 := hide (KB7.out.below hb KB7.out.lt)
      have KZ8 := hide (KZ7.out.below hb KZ7.out.lt)
      have KA8 := hide (KA7.out.below hb KA7.out.lt)
      have KX8 := hide (KX7.out.below hb KX7.out.lt)
      have KU8 := hide (KU7.out.below hb KU7.out.lt)
      have HB8 := hide (bthen HB7.out HB7.out.size hb); have z7 := HB7.out.size; have z8 := hb.size; clear hb
      have cT := KT8.out.cell; have fT := KT8.out.free; have lT := KT8.out.lt
      have cB := KB8.out.cell; have fB := KB8.out.free; have lB := KB8.out.lt
      have cZ := KZ8.out.cell; have fZ := KZ8.out.free; have lZ := KZ8.out.lt
      have cA := KA8.out.cell; have fA := KA8.out.free; have lA := KA8.out.lt
      have cX := KX8.out.cell; have fX := KX8.out.free; have lX := KX8.out.lt
      have cU := KU8.out.cell; have fU := KU8.out.free; have lU := KU8.out.lt
      have HO := hide (onFr_3 (a := a) hs1 hs2 hs3)
      by_cases h4 : c3 = 0
      rotate_left
      ·
        have q3 : (c3 != 0) = true := bneI_t h4
        have HE := hide (show posF l beat = (⟨n3, m3⟩, c3) by rw [HG.out, HO.out])
        clear h4
        go_wp2
        refine bodyPost_ret (v := .tuple #[.agg #[.int .i64 n3, .int .i64 m3], .int .i64 c3]) (by simp [results, Tryz.results147, go_sem, cZ, lZ, fZ]) rfl ?_
        rw [HE.out]; have hb := HB8.out; have hz := hb.size; exact ⟨rfl, (by repeat (first | with_reducible exact Below.refl _ _ | with_reducible assumption | with_reducible refine Below.setCell ?_ (by first | omega | (simp; done) | (simp; omega)) _ | with_reducible refine Below.alloc ?_ (by first | omega | (simp; done) | (simp; omega)) _ | with_reducible refine Below.drew ?_ | with_reducible refine below_drewN ?_ _ | exact Below.refl _ _ | assumption | refine Below.drew ?_ | refine below_drewN ?_ _ | refine Below.alloc ?_ (by first | omega | (simp; done) | (simp; omega)) _ | refine Below.setCell ?_ (by first | omega | (simp; done) | (simp; omega)) _))⟩
      have q3 : (c3 != 0) = false := bneI_f h4
      have HE := hide (show posF l beat = (⟨n3, m3⟩, c3) by rw [HG.out, HO.out]); clear h4
      go_wp2
      refine bodyPost_ret (v := .tuple #[.agg #[.int .i64 n3, .int .i64 m3], .int .i64 c3]) (by simp [results, Tryz.results147, go_sem, cZ, lZ, fZ]) rfl ?_
      rw [HE.out]; have hb := HB8.out; have hz := hb.size; exact ⟨rfl, (by repeat (first | with_reducible exact Below.refl _ _ | with_reducible assumption | with_reducible refine Below.setCell ?_ (by first | omega | (simp; done) | (simp; omega)) _ | with_reducible refine Below.alloc ?_ (by first | omega | (simp; done) | (simp; omega)) _ | with_reducible refine Below.drew ?_ | with_reducible refine below_drewN ?_ _ | exact Below.refl _ _ | assumption | refine Below.drew ?_ | refine below_drewN ?_ _ | refine Below.alloc ?_ (by first | omega | (simp; done) | (simp; omega)) _ | refine Below.setCell ?_ (by first | omega | (simp; done) | (simp; omega)) _))⟩
    have kcp : decide (0 < cc) = false := decide_eq_false hcp
    have HG := hide (show posF l beat = if (onFr a x.fBeat y.fBeat x.fSamples).2 ≠ 0 then onFr a x.fBeat y.fBeat x.fSamples else posGo beat (l.drop (k + 1)) (onFr a x.fBeat y.fBeat x.fSamples).1 by rw [← HP.out, HD.out]; exact posGo_more HDY.out (by rw [hcc]; exact hcp)); clear hcc hcp
    have h0 := HB.out.size
    have HB1 := hide ((HB.out.alloc h0 (.cells #[.int .i64 x.fBeat.fNum, .int .i64 x.fBeat.fDen, .int .i64 x.fSamples] 107)).alloc (by simp; omega) (.cells #[.int .i64 beat.fNum, .int .i64 beat.fDen] 64))
    have KT1 := hide ((KT.out.alloc (.cells #[.int .i64 x.fBeat.fNum, .int .i64 x.fBeat.fDen, .int .i64 x.fSamples] 107)).alloc (.cells #[.int .i64 beat.fNum, .int .i64 beat.fDen] 64))
    have KB1 := hide ((KB.out.alloc (.cells #[.int .i64 x.fBeat.fNum, .int .i64 x.fBeat.fDen, .int .i64 x.fSamples] 107)).alloc (.cells #[.int .i64 beat.fNum, .int .i64 beat.fDen] 64))
    have KZ1 := hide ((KZ.out.alloc (.cells #[.int .i64 x.fBeat.fNum, .int .i64 x.fBeat.fDen, .int .i64 x.fSamples] 107)).alloc (.cells #[.int .i64 beat.fNum, .int .i64 beat.fDen] 64))
    have KA1 := hide ((KA.out.alloc (.cells #[.int .i64 x.fBeat.fNum, .int .i64 x.fBeat.fDen, .int .i64 x.fSamples] 107)).alloc (.cells #[.int .i64 beat.fNum, .int .i64 beat.fDen] 64))
    have KX1 := hide ((Bk.born wr 107 #[.int .i64 x.fBeat.fNum, .int .i64 x.fBeat.fDen, .int .i64 x.fSamples]).alloc (.cells #[.int .i64 beat.fNum, .int .i64 beat.fDen] 64)); have KU1 := hide (Bk.born1' wr (.cells #[.int .i64 x.fBeat.fNum, .int .i64 x.fBeat.fDen, .int .i64 x.fSamples] 107) 64 #[.int .i64 beat.fNum, .int .i64 beat.fDen])
    have hw1 : wr.heap.size < ((wr.alloc (.cells #[.int .i64 x.fBeat.fNum, .int .i64 x.fBeat.fDen, .int .i64 x.fSamples] 107)).alloc (.cells #[.int .i64 beat.fNum, .int .i64 beat.fDen] 64)).heap.size := by simp; omega
    go_wp2
    generalize ((wr.alloc (.cells #[.int .i64 x.fBeat.fNum, .int .i64 x.fBeat.fDen, .int .i64 x.fSamples] 107)).alloc (.cells #[.int .i64 beat.fNum, .int .i64 beat.fDen] 64)) = W1 at *
    clear cT fT lT cB fB lB cZ fZ lZ cA fA lA
    obtain rfl := GTempo.rd_open (show T.rds _ _ _ by simpa only [GTempo.t, T.rd] using hcs2)
    have y0 := (HB1.out.cell hb2).trans (hcell2 0 (.int .i64 y.fBeat.fNum) rfl)
    have y1 := (HB1.out.cell hb2).trans (hcell2 1 (.int .i64 y.fBeat.fDen) rfl)
    have y2 := (HB1.out.cell hb2).trans (hcell2 2 (.int .i64 y.fSamples) rfl)
    rw [show off + ((k + 1) * 3 + 0) = off + (k + 1) * 3 by omega] at y0
    rw [show off + ((k + 1) * 3 + 1) = off + (k + 1) * 3 + 1 by omega] at y1
    rw [show off + ((k + 1) * 3 + 2) = off + (k + 1) * 3 + 2 by omega] at y2
    clear hcs2 hcell2
    have lq1 : b1 < W1.heap.size := Nat.lt_of_lt_of_le hb2 HB1.out.size
    have g0 := bel_bk KT1.out
    have g1 := bel_bk KB1.out
    have g2 := bel_bk KX1.out
    have g3 := bel_bk KU1.out
    have g4 := bel_cell y0
    have g5 := bel_cell y1
    have g6 := bel_cell y2
    refine wp_region_bel (by kernel_rfl) (by kernel_rfl) ?_
    repeat (first | go_big_quiet_skip | (go_big_quiet_want; go_big_quiet_op; first | go_big_quiet_on | (apply Exists.intro; refine ⟨fun _ => ?_, ?_⟩; (· (go_at_call 146; exact Calls.quiet_bel (CC.out _))); go_big_quiet_on)))
    refine wpQuiet_nil ?_
    rintro W2 ⟨uu, rfl⟩
    have hb9 := bel_below W1 uu
    generalize bel W1 uu = W2 at *
    have KT2 := hide (KT1.out.below hb9 KT1.out.lt)
    have KB2 := hide (KB1.out.below hb9 KB1.out.lt)
    have KZ2 := hide (KZ1.out.below hb9 KZ1.out.lt)
    have KA2 := hide (KA1.out.below hb9 KA1.out.lt)
    have KX2 := hide (KX1.out.below hb9 KX1.out.lt)
    have KU2 := hide (KU1.out.below hb9 KU1.out.lt)
    have y02 := (hb9.cell lq1).trans y0
    have y12 := (hb9.cell lq1).trans y1
    have y22 := (hb9.cell lq1).trans y2
    have HB2 := hide (bthen HB1.out HB1.out.size hb9); have hw2 := hb9.size; clear hb9 g0 g1 g2 g3 g4 g5 g6
    have cT := KT2.out.cell; have fT := KT2.out.free; have lT := KT2.out.lt
    have cB := KB2.out.cell; have fB := KB2.out.free; have lB := KB2.out.lt
    have cZ := KZ2.out.cell; have fZ := KZ2.out.free; have lZ := KZ2.out.lt
    have cA := KA2.out.cell; have fA := KA2.out.free; have lA := KA2.out.lt
    have cX := KX2.out.cell; have fX := KX2.out.free; have lX := KX2.out.lt
    have cU := KU2.out.cell; have fU := KU2.out.free; have lU := KU2.out.lt
    obtain ⟨⟨n1, m1⟩, c1, hs1⟩ : ∃ f c, subFr y.fBeat x.fBeat = (f, c) := ⟨_, _, rfl⟩
    have CS := hide (fun W => (by have := c_SubFrac y.fBeat x.fBeat W; rw [hs1] at this; exact this : Calls Tryz.prog 193 #[.agg #[.int .i64 y.fBeat.fNum, .int .i64 y.fBeat.fDen], .agg #[.int .i64 x.fBeat.fNum, .int .i64 x.fBeat.fDen]] W fun e w' => e = .returned (.tuple #[.agg #[.int .i64 n1, .int .i64 m1], .int .i64 c1]) ∧ Below W.heap.size W w'))
    go_wp2_with fail
    have z0 := HB.out.size
    have uT := KT.out.lt
    have uB := KB.out.lt
    have uZ := KZ.out.lt
    have uA := KA.out.lt
    have KTs := hide (Bk.far (Bk.far KT2.out (p := ⟨wr.heap.size + 1, 0, none⟩) (by dsimp only; omega) (.int .i64 y.fBeat.fNum)) (p := ⟨wr.heap.size + 1, 1, none⟩) (by dsimp only; omega) (.int .i64 y.fBeat.fDen))
    have KBs := hide (Bk.far (Bk.far KB2.out (p := ⟨wr.heap.size + 1, 0, none⟩) (by dsimp only; omega) (.int .i64 y.fBeat.fNum)) (p := ⟨wr.heap.size + 1, 1, none⟩) (by dsimp only; omega) (.int .i64 y.fBeat.fDen))
    have KZs := hide (Bk.far (Bk.far KZ2.out (p := ⟨wr.heap.size + 1, 0, none⟩) (by dsimp only; omega) (.int .i64 y.fBeat.fNum)) (p := ⟨wr.heap.size + 1, 1, none⟩) (by dsimp only; omega) (.int .i64 y.fBeat.fDen))
    have KAs := hide (Bk.far (Bk.far KA2.out (p := ⟨wr.heap.size + 1, 0, none⟩) (by dsimp only; omega) (.int .i64 y.fBeat.fNum)) (p := ⟨wr.heap.size + 1, 1, none⟩) (by dsimp only; omega) (.int .i64 y.fBeat.fDen))
    have KXs := hide (Bk.far (Bk.far KX2.out (p := ⟨wr.heap.size + 1, 0, none⟩) (by dsimp only; omega) (.int .i64 y.fBeat.fNum)) (p := ⟨wr.heap.size + 1, 1, none⟩) (by dsimp only; omega) (.int .i64 y.fBeat.fDen))
    have KUs : Sec (Bk _ (wr.heap.size + 1) 64 #[.int .i64 y.fBeat.fNum, .int .i64 y.fBeat.fDen]) := hide (by have := Bk.set_ (Bk.set_ KU2.out 0 (.int .i64 y.fBeat.fNum)) 1 (.int .i64 y.fBeat.fDen); simpa using this)
    have HBs := hide (Below.setCell (p := ⟨wr.heap.size + 1, 1, none⟩) (Below.setCell (p := ⟨wr.heap.size + 1, 0, none⟩) HB2.out (by dsimp only; omega) (.int .i64 y.fBeat.fNum)) (by dsimp only; omega) (.int .i64 y.fBeat.fDen))
    have zs : W2.heap.size ≤ ((W2.setCell ⟨wr.heap.size + 1, 0, none⟩ (.int .i64 y.fBeat.fNum)).setCell ⟨wr.heap.size + 1, 1, none⟩ (.int .i64 y.fBeat.fDen)).heap.size := by simp
    generalize ((W2.setCell ⟨wr.heap.size + 1, 0, none⟩ (.int .i64 y.fBeat.fNum)).setCell ⟨wr.heap.size + 1, 1, none⟩ (.int .i64 y.fBeat.fDen)) = Ws at *
    have hw2 : W1.heap.size ≤ Ws.heap.size := Nat.le_trans hw2 zs
    refine (CS.out _).mono ?_; rintro e w3 ⟨rfl, hb⟩
    clear cT fT lT cB fB lB cZ fZ lZ cA fA lA cX fX lX cU fU lU
    have KT3 := hide (KTs.out.below hb KTs.out.lt)
    have KB3 := hide (KBs.out.below hb KBs.out.lt)
    have KZ3 := hide (KZs.out.below hb KZs.out.lt)
    have KA3 := hide (KAs.out.below hb KAs.out.lt)
    have KX3 := hide (KXs.out.below hb KXs.out.lt)
    have KU3 := hide (KUs.out.below hb KUs.out.lt)
    have HB3 := hide (bthen HBs.out HBs.out.size hb); have hw3 := hb.size; clear hb
    have cT := KT3.out.cell; have fT := KT3.out.free; have lT := KT3.out.lt
    have cB := KB3.out.cell; have fB := KB3.out.free; have lB := KB3.out.lt
    have cZ := KZ3.out.cell; have fZ := KZ3.out.free; have lZ := KZ3.out.lt
    have cA := KA3.out.cell; have fA := KA3.out.free; have lA := KA3.out.lt
    have cX := KX3.out.cell; have fX := KX3.out.free; have lX := KX3.out.lt
    have cU := KU3.out.cell; have fU := KU3.out.free; have lU := KU3.out.lt
    by_cases h1 : c1 = 0
    rotate_left
    ·
      have q1 : (c1 == 0) = false := beqI_f h1; have q1' : (c1 != 0) = true := bneI_t h1
      have HE := hide (show posF l beat = (a, c1) by rw [HG.out, onFr_1 hs1 h1]; exact if_pos h1)
      clear h1
      go_wp2
      refine bodyPost_ret (v := .tuple #[.agg #[.int .i64 a.fNum, .int .i64 a.fDen], .int .i64 c1]) (by simp [results, Tryz.results147, go_sem, cZ, lZ, fZ]) rfl ?_
      rw [HE.out]; have hb := HB3.out; have hz := hb.size; exact ⟨rfl, (by repeat (first | with_reducible exact Below.refl _ _ | with_reducible assumption | with_reducible refine Below.setCell ?_ (by first | omega | (simp; done) | (simp; omega)) _ | with_reducible refine Below.alloc ?_ (by first | omega | (simp; done) | (simp; omega)) _ | with_reducible refine Below.drew ?_ | with_reducible refine below_drewN ?_ _ | exact Below.refl _ _ | assumption | refine Below.drew ?_ | refine below_drewN ?_ _ | refine Below.alloc ?_ (by first | omega | (simp; done) | (simp; omega)) _ | refine Below.setCell ?_ (by first | omega | (simp; done) | (simp; omega)) _))⟩
    subst h1
    clear cT fT lT cB fB lB cZ fZ lZ cA fA lA cX fX lX cU fU lU
    have h3 := HB3.out.size
    have HB4 := hide (HB3.out.alloc h3 (.cells #[.int .i64 n1, .int .i64 m1] 64))
    have KT4 := hide (KT3.out.alloc (.cells #[.int .i64 n1, .int .i64 m1] 64))
    have KB4 := hide (KB3.out.alloc (.cells #[.int .i64 n1, .int .i64 m1] 64))
    have KZ4 := hide (KZ3.out.alloc (.cells #[.int .i64 n1, .int .i64 m1] 64))
    have KA4 := hide (KA3.out.alloc (.cells #[.int .i64 n1, .int .i64 m1] 64))
    have KX4 := hide (KX3.out.alloc (.cells #[.int .i64 n1, .int .i64 m1] 64))
    have KU4 := hide (KU3.out.alloc (.cells #[.int .i64 n1, .int .i64 m1] 64))
    have KD4 := hide (Bk.born w3 64 #[.int .i64 n1, .int .i64 m1])
    have hw4 : w3.heap.size < (w3.alloc (.cells #[.int .i64 n1, .int .i64 m1] 64)).heap.size := by simp
    go_wp2
    generalize (w3.alloc (.cells #[.int .i64 n1, .int .i64 m1] 64)) = W4 at *
    obtain ⟨⟨n2, m2⟩, c2, hs2⟩ : ∃ f c, mulFr ⟨n1, m1⟩ ⟨x.fSamples, 1⟩ = (f, c) := ⟨_, _, rfl⟩
    have CM := hide (fun W => (by have := c_MulFrac ⟨n1, m1⟩ ⟨x.fSamples, 1⟩ W; rw [hs2] at this; exact this : Calls Tryz.prog 194 #[.agg #[.int .i64 n1, .int .i64 m1], .agg #[.int .i64 x.fSamples, .int .i64 1]] W fun e w' => e = .returned (.tuple #[.agg #[.int .i64 n2, .int .i64 m2], .int .i64 c2]) ∧ Below W.heap.size W w'))
    have cT := KT4.out.cell; have fT := KT4.out.free; have lT := KT4.out.lt
    have cB := KB4.out.cell; have fB := KB4.out.free; have lB := KB4.out.lt
    have cZ := KZ4.out.cell; have fZ := KZ4.out.free; have lZ := KZ4.out.lt
    have cA := KA4.out.cell; have fA := KA4.out.free; have lA := KA4.out.lt
    have cX := KX4.out.cell; have fX := KX4.out.free; have lX := KX4.out.lt
    have cU := KU4.out.cell; have fU := KU4.out.free; have lU := KU4.out.lt
    have cD := KD4.out.cell; have fD := KD4.out.free; have lD := KD4.out.lt
    refine wp_region_N (fun w' => (∀ i, w'.cell? ⟨wr.heap.size, i, none⟩ = #[.int .i64 x.fBeat.fNum, .int .i64 x.fBeat.fDen, .int .i64 x.fSamples][i]?) ∧ (∀ i, w'.cell? ⟨w3.heap.size, i, none⟩ = #[.int .i64 n1, .int .i64 m1][i]?)) [6, 7, 8, 9] (by kernel_rfl) ?_ (fun hS0 => ?_)
    · exact ⟨KX4.out.cell, KD4.out.cell⟩
    refine wpAnyN_take (i := 0) (oi := _) (v := ?v13) 6 (by kernel_rfl) (by kernel_rfl) rfl (by kernel_rfl) (by kernel_rfl) (by kernel_rfl) (fun _ _ _ h => h) hS0 (by rfl) ?hy13 ?rest13
    case hy13 => (intro w hSw; (try dsimp only at hSw); first | (go_simp; done) | (go_simp; with_reducible rfl))
    try simp only [Act.put, List.setIfInBounds_toArray, List.set_cons_zero, List.set_cons_succ]
    refine wpAnyN_take (i := 1) (oi := _) (v := ?v14) 6 (by kernel_rfl) (by kernel_rfl) rfl (by kernel_rfl) (by kernel_rfl) (by kernel_rfl) (fun _ _ _ h => h) hS0 (by rfl) ?hy14 ?rest14
    case hy14 => (intro w hSw; (try dsimp only at hSw); first | (go_simp; done) | (go_simp; with_reducible rfl))
    try simp only [Act.put, List.setIfInBounds_toArray, List.set_cons_zero, List.set_cons_succ]
    refine wpAnyN_take (i := 2) (oi := _) (v := ?v15) 6 (by kernel_rfl) (by kernel_rfl) rfl (by kernel_rfl) (by kernel_rfl) (by kernel_rfl) (fun _ _ _ h => h) hS0 (by rfl) ?hy15 ?rest15
    case hy15 => (intro w hSw; (try dsimp only at hSw); first | (go_simp; done) | (go_simp; with_reducible rfl))
    try simp only [Act.put, List.setIfInBounds_toArray, List.set_cons_zero, List.set_cons_succ]
    refine wpAnyN_one (i := 3) (o := _) (by kernel_rfl) rfl (fun K hK => ?_)
    go_simp
    go_wp2_with (go_at_call 149; refine (c_whole x.fSamples _).mono ?_; rintro e w5 ⟨rfl, hb⟩)
    have hb5 := undrew hb; clear hb; have KX5 := hide (KX4.out.below hb5 KX4.out.lt); have KD5 := hide (KD4.out.below hb5 KD4.out.lt); have HW5 := hide hb5; clear hb5
    refine hK.out _ _ ?_ (fun hS1 => ?_)
    · exact ⟨KX5.out.cell, KD5.out.cell⟩
    clear hK K hS0
    refine wpAnyN_one (i := 4) (o := _) (by kernel_rfl) rfl (fun K hK => ?_)
    go_simp
    go_wp2_with (go_at_call 194; refine (CM.out _).mono ?_; rintro e w6 ⟨rfl, hb⟩)
    have HW6 := hide (bthen HW5.out HW5.out.size hb); clear hb; have HB6 := hide (bthen HB4.out HB4.out.size HW6.out); have KT6 := hide (KT4.out.below HW6.out KT4.out.lt); have KB6 := hide (KB4.out.below HW6.out KB4.out.lt); have KZ6 := hide (KZ4.out.below HW6.out KZ4.out.lt); have KA6 := hide (KA4.out.below HW6.out KA4.out.lt); have KX6 := hide (KX4.out.below HW6.out KX4.out.lt); have KU6 := hide (KU4.out.below HW6.out KU4.out.lt); have KD6 := hide (KD4.out.below HW6.out KD4.out.lt)
    refine hK.out _ _ ?_ (fun hS2 => ?_)
    · exact ⟨KX6.out.cell, KD6.out.cell⟩
    clear hK K hS1
    refine wpAnyN_take (i := 5) (oi := _) (v := ?v16) 6 (by kernel_rfl) (by kernel_rfl) rfl (by kernel_rfl) (by kernel_rfl) (by kernel_rfl) (fun _ _ _ h => h) hS2 (by rfl) ?hy16 ?rest16
    case hy16 => (intro w hSw; (try dsimp only at hSw); first | (go_simp; done) | (go_simp; with_reducible rfl))
    try simp only [Act.put, List.setIfInBounds_toArray, List.set_cons_zero, List.set_cons_succ]
    refine wpAnyN_takeT (i := 6) (oi := _) (v := ?v17) (by decide) rfl (by kernel_rfl) (by kernel_rfl) (by kernel_rfl) (fun _ _ _ h => h) (by rfl) ?hy17 ?rest17
    case hy17 => (intro w; first | (go_simp; done) | (go_simp; with_reducible rfl))
    try simp only [Act.put, List.setIfInBounds_toArray, List.set_cons_zero, List.set_cons_succ]
    refine wpAnyN_takeT (i := 7) (oi := _) (v := ?v18) (by decide) rfl (by kernel_rfl) (by kernel_rfl) (by kernel_rfl) (fun _ _ _ h => h) (by rfl) ?hy18 ?rest18
    case hy18 => (intro w; first | (go_simp; done) | (go_simp; with_reducible rfl))
    try simp only [Act.put, List.setIfInBounds_toArray, List.set_cons_zero, List.set_cons_succ]
    clear cT fT lT cB fB lB cZ fZ lZ cA fA lA cX fX lX cU fU lU cD fD lD
    have cT := KT6.out.cell; have fT := KT6.out.free; have lT := KT6.out.lt
    have cB := KB6.out.cell; have fB := KB6.out.free; have lB := KB6.out.lt
    have cZ := KZ6.out.cell; have fZ := KZ6.out.free; have lZ := KZ6.out.lt
    have cA := KA6.out.cell; have fA := KA6.out.free; have lA := KA6.out.lt
    have cX := KX6.out.cell; have fX := KX6.out.free; have lX := KX6.out.lt
    have cU := KU6.out.cell; have fU := KU6.out.free; have lU := KU6.out.lt
    have cD := KD6.out.cell; have fD := KD6.out.free; have lD := KD6.out.lt
    refine wpAnyN_tail2 (i := 8) (j := 9) (o := _) (o2 := _) (by kernel_rfl) rfl (by kernel_rfl) rfl (by kernel_rfl) (by decide) (by decide) ?_
    have z3 := HB3.out.size; have z1 := HB.out.size
    have o1 := KT3.out.lt; have o2 := KB3.out.lt; have o3 := KZ3.out.lt; have o4 := KA3.out.lt; have o5 := KX3.out.lt; have o6 := KU3.out.lt
    by_cases h2 : c2 = 0
    rotate_left
    ·
      have q2 : (c2 == 0) = false := beqI_f h2; have q2' : (c2 != 0) = true := bneI_t h2
      have HE := hide (show posF l beat = (a, c2) by rw [HG.out, onFr_2 hs1 hs2 h2]; exact if_pos h2); clear h2
      go_wp2
      refine bodyPost_ret (v := .tuple #[.agg #[.int .i64 a.fNum, .int .i64 a.fDen], .int .i64 c2]) (by simp [results, Tryz.results147, go_sem, cZ, lZ, fZ]) rfl ?_
      rw [HE.out]; have hb := HB6.out; have hz := hb.size; exact ⟨rfl, (by repeat (first | with_reducible exact Below.refl _ _ | with_reducible assumption | with_reducible refine Below.setCell ?_ (by first | omega | (simp; done) | (simp; omega)) _ | with_reducible refine Below.alloc ?_ (by first | omega | (simp; done) | (simp; omega)) _ | with_reducible refine Below.drew ?_ | with_reducible refine below_drewN ?_ _ | exact Below.refl _ _ | assumption | refine Below.drew ?_ | refine below_drewN ?_ _ | refine Below.alloc ?_ (by first | omega | (simp; done) | (simp; omega)) _ | refine Below.setCell ?_ (by first | omega | (simp; done) | (simp; omega)) _))⟩
    subst h2
    obtain ⟨⟨n3, m3⟩, c3, hs3⟩ : ∃ f c, addFr a ⟨n2, m2⟩ = (f, c) := ⟨_, _, rfl⟩
    have CA := hide (fun W => (by have := c_AddFrac a ⟨n2, m2⟩ W; rw [hs3] at this; exact this : Calls Tryz.prog 195 #[.agg #[.int .i64 a.fNum, .int .i64 a.fDen], .agg #[.int .i64 n2, .int .i64 m2]] W fun e w' => e = .returned (.tuple #[.agg #[.int .i64 n3, .int .i64 m3], .int .i64 c3]) ∧ Below W.heap.size W w'))
    go_wp2_with fail
    have KT7 := hide (Bk.far (Bk.far KT6.out (p := ⟨w3.heap.size, 0, none⟩) (by dsimp only; omega) (.int .i64 n2)) (p := ⟨w3.heap.size, 1, none⟩) (by dsimp only; omega) (.int .i64 m2))
    have KB7 := hide (Bk.far (Bk.far KB6.out (p := ⟨w3.heap.size, 0, none⟩) (by dsimp only; omega) (.int .i64 n2)) (p := ⟨w3.heap.size, 1, none⟩) (by dsimp only; omega) (.int .i64 m2))
    have KZ7 := hide (Bk.far (Bk.far KZ6.out (p := ⟨w3.heap.size, 0, none⟩) (by dsimp only; omega) (.int .i64 n2)) (p := ⟨w3.heap.size, 1, none⟩) (by dsimp only; omega) (.int .i64 m2))
    have KA7 := hide (Bk.far (Bk.far KA6.out (p := ⟨w3.heap.size, 0, none⟩) (by dsimp only; omega) (.int .i64 n2)) (p := ⟨w3.heap.size, 1, none⟩) (by dsimp only; omega) (.int .i64 m2))
    have KX7 := hide (Bk.far (Bk.far KX6.out (p := ⟨w3.heap.size, 0, none⟩) (by dsimp only; omega) (.int .i64 n2)) (p := ⟨w3.heap.size, 1, none⟩) (by dsimp only; omega) (.int .i64 m2))
    have KU7 := hide (Bk.far (Bk.far KU6.out (p := ⟨w3.heap.size, 0, none⟩) (by dsimp only; omega) (.int .i64 n2)) (p := ⟨w3.heap.size, 1, none⟩) (by dsimp only; omega) (.int .i64 m2))
    have HB7 := hide (Below.setCell (p := ⟨w3.heap.size, 1, none⟩) (Below.setCell (p := ⟨w3.heap.size, 0, none⟩) HB6.out (by dsimp only; omega) (.int .i64 n2)) (by dsimp only; omega) (.int .i64 m2))
    generalize ((w6.setCell ⟨w3.heap.size, 0, none⟩ (.int .i64 n2)).setCell ⟨w3.heap.size, 1, none⟩ (.int .i64 m2)) = W7 at *
    clear cT fT lT cB fB lB cZ fZ lZ cA fA lA cX fX lX cU fU lU cD fD lD
    refine (CA.out _).mono ?_; rintro e w8 ⟨rfl, hb⟩
    have KT8 := hide (KT7.out.below hb KT7.out.lt)
    have KB8 := hide (KB7.out.below hb KB7.out.lt)
    have KZ8 := hide (KZ7.out.below hb KZ7.out.lt)
    have KA8 := hide (KA7.out.below hb KA7.out.lt)
    have KX8 := hide (KX7.out.below hb KX7.out.lt)
    have KU8 := hide (KU7.out.below hb KU7.out.lt)
    have HB8 := hide (bthen HB7.out HB7.out.size hb); have z7 := HB7.out.size; have z8 := hb.size; clear hb
    have cT := KT8.out.cell; have fT := KT8.out.free; have lT := KT8.out.lt
    have cB := KB8.out.cell; have fB := KB8.out.free; have lB := KB8.out.lt
    have cZ := KZ8.out.cell; have fZ := KZ8.out.free; have lZ := KZ8.out.lt
    have cA := KA8.out.cell; have fA := KA8.out.free; have lA := KA8.out.lt
    have cX := KX8.out.cell; have fX := KX8.out.free; have lX := KX8.out.lt
    have cU := KU8.out.cell; have fU := KU8.out.free; have lU := KU8.out.lt
    have HO := hide (onFr_3 (a := a) hs1 hs2 hs3)
    by_cases h4 : c3 = 0
    rotate_left
    ·
      have q3 : (c3 != 0) = true := bneI_t h4
      have HE := hide (show posF l beat = (⟨n3, m3⟩, c3) by rw [HG.out, HO.out, if_pos h4])
      clear h4
      go_wp2
      refine bodyPost_ret (v := .tuple #[.agg #[.int .i64 n3, .int .i64 m3], .int .i64 c3]) (by simp [results, Tryz.results147, go_sem, cZ, lZ, fZ]) rfl ?_
      rw [HE.out]; have hb := HB8.out; have hz := hb.size; exact ⟨rfl, (by repeat (first | with_reducible exact Below.refl _ _ | with_reducible assumption | with_reducible refine Below.setCell ?_ (by first | omega | (simp; done) | (simp; omega)) _ | with_reducible refine Below.alloc ?_ (by first | omega | (simp; done) | (simp; omega)) _ | with_reducible refine Below.drew ?_ | with_reducible refine below_drewN ?_ _ | exact Below.refl _ _ | assumption | refine Below.drew ?_ | refine below_drewN ?_ _ | refine Below.alloc ?_ (by first | omega | (simp; done) | (simp; omega)) _ | refine Below.setCell ?_ (by first | omega | (simp; done) | (simp; omega)) _))⟩
    have q3 : (c3 != 0) = false := bneI_f h4
    have HE := hide (show posF l beat = posGo beat (l.drop (k + 1)) ⟨n3, m3⟩ by rw [HG.out, HO.out, if_neg (by simp [h4])]); clear h4
    go_wp2
    go_roundw
    case rel => exact ⟨k + 1, ⟨n3, m3⟩, by omega, by go_num, HE.out.symm, (Bk.far (Bk.far KT8.out (p := ⟨w.heap.size + 3, 0, none⟩) (by dsimp only; omega) (.int .i64 n3)) (p := ⟨w.heap.size + 3, 1, none⟩) (by dsimp only; omega) (.int .i64 m3)), (Bk.far (Bk.far KB8.out (p := ⟨w.heap.size + 3, 0, none⟩) (by dsimp only; omega) (.int .i64 n3)) (p := ⟨w.heap.size + 3, 1, none⟩) (by dsimp only; omega) (.int .i64 m3)), (Bk.far (Bk.far KZ8.out (p := ⟨w.heap.size + 3, 0, none⟩) (by dsimp only; omega) (.int .i64 n3)) (p := ⟨w.heap.size + 3, 1, none⟩) (by dsimp only; omega) (.int .i64 m3)), (by have := Bk.set_ (Bk.set_ KA8.out 0 (.int .i64 n3)) 1 (.int .i64 m3); simpa using this), (Below.setCell (p := ⟨w.heap.size + 3, 1, none⟩) (Below.setCell (p := ⟨w.heap.size + 3, 0, none⟩) HB8.out (by dsimp only; omega) (.int .i64 n3)) (by dsimp only; omega) (.int .i64 m3))⟩
    case measure => simp [intOf]; omega
end Go.Proofs.YteiflbhcehajkaaGreatDoor
