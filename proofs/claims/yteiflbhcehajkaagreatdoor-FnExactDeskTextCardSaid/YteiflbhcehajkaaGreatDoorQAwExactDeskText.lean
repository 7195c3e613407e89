/- Contracts: tempo maps, reference. -/
import Derived.Test.YteiflbhcehajkaaGreatDoorQAvExactDeskText
set_option linter.unusedVariables false
set_option linter.unusedSimpArgs false
namespace Go.Proofs.YteiflbhcehajkaaGreatDoor
open Go.RowKit
def stepFrom (l : List GTempo) (a : GFrac) : Nat → GFrac
  | 0 => a
  | k + 1 => match l[k]?, l[k + 1]? with
    | some x, some y => (onFr (stepFrom l a k) x.fBeat y.fBeat x.fSamples).1
    | _, _ => stepFrom l a k
def ChainN (l : List GTempo) (a : GFrac) (n : Nat) : Prop := ∀ j x y, j + 1 < n → l[j]? = some x → l[j + 1]? = some y → (onFr (stepFrom l a j) x.fBeat y.fBeat x.fSamples).2 = 0
theorem stepFrom_at {l : List GTempo} {a : GFrac} {j : Nat} {x y : GTempo} (h1 : l[j]? = some x) (h2 : l[j + 1]? = some y) : stepFrom l a (j + 1) = (onFr (stepFrom l a j) x.fBeat y.fBeat x.fSamples).1 := by
  show (match l[j]?, l[j + 1]? with | some x, some y => (onFr (stepFrom l a j) x.fBeat y.fBeat x.fSamples).1 | _, _ => stepFrom l a j) = _
  rw [h1, h2]
theorem stepFrom_cons {x y : GTempo} {r : List GTempo} {a : GFrac} : ∀ k, k < (y :: r).length → stepFrom (x :: y :: r) a (k + 1) = stepFrom (y :: r) (onFr a x.fBeat y.fBeat x.fSamples).1 k
  | 0, _ => stepFrom_at rfl rfl
  | k + 1, hk => by
    have h1 : (y :: r)[k]? = some (y :: r)[k] := List.getElem?_eq_getElem (by omega)
    have h2 : (y :: r)[k + 1]? = some (y :: r)[k + 1] := List.getElem?_eq_getElem hk
    rw [stepFrom_at (l := x :: y :: r) (j := k + 1) (by rw [List.getElem?_cons_succ]; exact h1) (by rw [List.getElem?_cons_succ]; exact h2), stepFrom_cons k (by omega), stepFrom_at h1 h2]
theorem chain_iff : ∀ (l : List GTempo) (a : GFrac), chainOk l a l.length ↔ ChainN l a l.length
  | [], _ => ⟨fun _ j x y hj => by simp at hj, fun _ => trivial⟩
  | [_], _ => ⟨fun _ j x y hj => by simp at hj, fun _ => trivial⟩
  | x :: y :: r, a => by
    have ih := chain_iff (y :: r) (onFr a x.fBeat y.fBeat x.fSamples).1
    show (onFr a x.fBeat y.fBeat x.fSamples).2 = 0 ∧ chainOk (y :: r) (onFr a x.fBeat y.fBeat x.fSamples).1 (y :: r).length ↔ _
    rw [ih]
    constructor
    · rintro ⟨h1, h2⟩ j u v hj hu hv
      cases j with
      | zero =>
        obtain rfl : x = u := by simpa using hu
        obtain rfl : y = v := by simpa using hv
        exact h1
      | succ j =>
        rw [List.getElem?_cons_succ] at hu hv
        rw [stepFrom_cons j (by simp only [List.length_cons] at hj ⊢; omega)]
        exact h2 j u v (by simp only [List.length_cons] at hj ⊢; omega) hu hv
    · intro h
      refine ⟨h 0 x y (by simp) rfl rfl, fun j u v hj hu hv => ?_⟩
      have := h (j + 1) u v (by simp only [List.length_cons] at hj ⊢; omega) (by rw [List.getElem?_cons_succ]; exact hu) (by rw [List.getElem?_cons_succ]; exact hv)
      rwa [stepFrom_cons j (by simp only [List.length_cons] at hj ⊢; omega)] at this
set_option maxHeartbeats 2000000 in
set_option maxRecDepth 20000 in
theorem c_l17On (x y p : GFrac) (s : Int) (w : World) : Calls Tryz.prog 188 #[.agg #[.int .i64 x.fNum, .int .i64 x.fDen], .agg #[.int .i64 y.fNum, .int .i64 y.fDen], .int .i64 s, .agg #[.int .i64 p.fNum, .int .i64 p.fDen]] w fun e w' => (∃ n d, e = .returned (.tuple #[.agg #[.int .i64 n, .int .i64 d], .bool (decide ((onFr p x y s).2 = 0))]) ∧ ((onFr p x y s).2 = 0 → onFr p x y s = (⟨n, d⟩, 0))) ∧ Below w.heap.size w w' := by
  obtain ⟨⟨n1, m1⟩, c1, hs1⟩ : ∃ f c, subFr y x = (f, c) := ⟨_, _, rfl⟩
  obtain ⟨⟨n2, m2⟩, c2, hs2⟩ : ∃ f c, mulFr ⟨n1, m1⟩ ⟨s, 1⟩ = (f, c) := ⟨_, _, rfl⟩
  obtain ⟨⟨n3, m3⟩, c3, hs3⟩ : ∃ f c, addFr p ⟨n2, m2⟩ = (f, c) := ⟨_, _, rfl⟩
  have CS := hide (fun W => (by have := c_sSubFrac y x W; rw [hs1] at this; exact this : Calls Tryz.prog 218 #[.agg #[.int .i64 y.fNum, .int .i64 y.fDen], .agg #[.int .i64 x.fNum, .int .i64 x.fDen]] W fun e w' => e = .returned (.tuple #[.agg #[.int .i64 n1, .int .i64 m1], .int .i64 c1]) ∧ Below W.heap.size W w'))
  have CM := hide (fun W => (by have := c_sMulFrac ⟨n1, m1⟩ ⟨s, 1⟩ W; rw [hs2] at this; exact this : Calls Tryz.prog 219 #[.agg #[.int .i64 n1, .int .i64 m1], .agg #[.int .i64 s, .int .i64 1]] W fun e w' => e = .returned (.tuple #[.agg #[.int .i64 n2, .int .i64 m2], .int .i64 c2]) ∧ Below W.heap.size W w'))
  have CA := hide (fun W => (by have := c_sAddFrac p ⟨n2, m2⟩ W; rw [hs3] at this; exact this : Calls Tryz.prog 217 #[.agg #[.int .i64 p.fNum, .int .i64 p.fDen], .agg #[.int .i64 n2, .int .i64 m2]] W fun e w' => e = .returned (.tuple #[.agg #[.int .i64 n3, .int .i64 m3], .int .i64 c3]) ∧ Below W.heap.size W w'))
  have O1 := hide (fun h => onFr_1 (a := p) (s := s) hs1 h)
  have O2 := hide (fun (h1 : c1 = 0) h => onFr_2 (a := p) (h1 ▸ hs1) hs2 h)
  have O3 := hide (fun (h1 : c1 = 0) (h2 : c2 = 0) => onFr_3 (a := p) (s := s) (h1 ▸ hs1) (h2 ▸ hs2) hs3)
  clear hs1 hs2 hs3
  have HB0 := hide (show Below w.heap.size w ((((w.alloc (.cells #[.int .i64 x.fNum, .int .i64 x.fDen] 64)).alloc (.cells #[.int .i64 y.fNum, .int .i64 y.fDen] 64)).alloc (.cells #[.int .i64 p.fNum, .int .i64 p.fDen] 64)).alloc (.cells #[.int .i64 0, .int .i64 0] 64)) from (Below.alloc (Below.alloc (Below.alloc (Below.alloc (Below.refl w.heap.size w) (Nat.le_refl _) (.cells #[.int .i64 x.fNum, .int .i64 x.fDen] 64)) (by simp) (.cells #[.int .i64 y.fNum, .int .i64 y.fDen] 64)) (by simp; omega) (.cells #[.int .i64 p.fNum, .int .i64 p.fDen] 64)) (by simp; omega) (.cells #[.int .i64 0, .int .i64 0] 64)))
  have KX0 := hide ((((Bk.born w 64 #[.int .i64 x.fNum, .int .i64 x.fDen]).alloc (.cells #[.int .i64 y.fNum, .int .i64 y.fDen] 64)).alloc (.cells #[.int .i64 p.fNum, .int .i64 p.fDen] 64)).alloc (.cells #[.int .i64 0, .int .i64 0] 64))
  have KY0 := hide (((Bk.born1' w (.cells #[.int .i64 x.fNum, .int .i64 x.fDen] 64) 64 #[.int .i64 y.fNum, .int .i64 y.fDen]).alloc (.cells #[.int .i64 p.fNum, .int .i64 p.fDen] 64)).alloc (.cells #[.int .i64 0, .int .i64 0] 64))
  have KP0 := hide ((Bk.born2 w (.cells #[.int .i64 x.fNum, .int .i64 x.fDen] 64) (.cells #[.int .i64 y.fNum, .int .i64 y.fDen] 64) 64 #[.int .i64 p.fNum, .int .i64 p.fDen]).alloc (.cells #[.int .i64 0, .int .i64 0] 64))
  have KZ0 : Sec (Bk ((((w.alloc (.cells #[.int .i64 x.fNum, .int .i64 x.fDen] 64)).alloc (.cells #[.int .i64 y.fNum, .int .i64 y.fDen] 64)).alloc (.cells #[.int .i64 p.fNum, .int .i64 p.fDen] 64)).alloc (.cells #[.int .i64 0, .int .i64 0] 64)) (w.heap.size + 3) 64 #[.int .i64 0, .int .i64 0]) := hide (by have := Bk.born (((w.alloc (.cells #[.int .i64 x.fNum, .int .i64 x.fDen] 64)).alloc (.cells #[.int .i64 y.fNum, .int .i64 y.fDen] 64)).alloc (.cells #[.int .i64 p.fNum, .int .i64 p.fDen] 64)) 64 #[.int .i64 0, .int .i64 0]; simpa using this)
  generalize hW0 : ((((w.alloc (.cells #[.int .i64 x.fNum, .int .i64 x.fDen] 64)).alloc (.cells #[.int .i64 y.fNum, .int .i64 y.fDen] 64)).alloc (.cells #[.int .i64 p.fNum, .int .i64 p.fDen] 64)).alloc (.cells #[.int .i64 0, .int .i64 0] 64)) = W0 at *; have HW0 := hide hW0; clear hW0
  by_cases h1 : c1 = 0
  rotate_left
  ·
    have q1 : (c1 == 0) = false := beqI_f h1
    have HD := hide (show decide ((onFr p x y s).2 = 0) = false by rw [O1.out h1]; exact decide_eq_false h1)
    have HN := hide (show ¬ (onFr p x y s).2 = 0 by rw [O1.out h1]; exact h1); clear h1
    go_enter Tryz.func188, Tryz.ntmps188
    go_wp2_with fail
    rw [HW0.out]
    refine (CS.out _).mono ?_; rintro e w1 ⟨rfl, hb⟩
    have HB1 := hide (bthen HB0.out HB0.out.size hb)
    have KX1 := hide (KX0.out.below hb KX0.out.lt)
    have KY1 := hide (KY0.out.below hb KY0.out.lt)
    have KP1 := hide (KP0.out.below hb KP0.out.lt)
    have KZ1 := hide (KZ0.out.below hb KZ0.out.lt)
    clear hb
    have h_ := HB1.out.size; have HB1a := hide (HB1.out.alloc h_ (.cells #[.int .i64 n1, .int .i64 m1] 64)); clear h_
    have KX1a := hide (KX1.out.alloc (.cells #[.int .i64 n1, .int .i64 m1] 64))
    have KY1a := hide (KY1.out.alloc (.cells #[.int .i64 n1, .int .i64 m1] 64))
    have KP1a := hide (KP1.out.alloc (.cells #[.int .i64 n1, .int .i64 m1] 64))
    have KZ1a := hide (KZ1.out.alloc (.cells #[.int .i64 n1, .int .i64 m1] 64))
    have KD1a := hide (Bk.born w1 64 #[.int .i64 n1, .int .i64 m1])
    have cX := KX1.out.cell; have lX := KX1.out.lt
    have cY := KY1.out.cell; have lY := KY1.out.lt
    have cP := KP1.out.cell; have lP := KP1.out.lt
    have cZ := KZ1.out.cell; have lZ := KZ1.out.lt
    have cD := KD1a.out.cell; have lD := KD1a.out.lt
    go_wp2_with fail
    clear cX lX cY lY cP lP cZ lZ cD lD
    refine (CM.out _).mono ?_; rintro e w2 ⟨rfl, hb⟩
    have HB2 := hide (bthen HB1a.out HB1a.out.size hb)
    have KX2 := hide (KX1a.out.below hb KX1a.out.lt)
    have KY2 := hide (KY1a.out.below hb KY1a.out.lt)
    have KP2 := hide (KP1a.out.below hb KP1a.out.lt)
    have KZ2 := hide (KZ1a.out.below hb KZ1a.out.lt)
    have KD2 := hide (KD1a.out.below hb KD1a.out.lt)
    clear hb
    have h_ := HB2.out.size; have HB2a := hide (HB2.out.alloc h_ (.cells #[.int .i64 n2, .int .i64 m2] 64)); clear h_
    have KX2a := hide (KX2.out.alloc (.cells #[.int .i64 n2, .int .i64 m2] 64))
    have KY2a := hide (KY2.out.alloc (.cells #[.int .i64 n2, .int .i64 m2] 64))
    have KP2a := hide (KP2.out.alloc (.cells #[.int .i64 n2, .int .i64 m2] 64))
    have KZ2a := hide (KZ2.out.alloc (.cells #[.int .i64 n2, .int .i64 m2] 64))
    have KD2a := hide (KD2.out.alloc (.cells #[.int .i64 n2, .int .i64 m2] 64))
    have KU2a := hide (Bk.born w2 64 #[.int .i64 n2, .int .i64 m2])
    have cX := KX2.out.cell; have lX := KX2.out.lt
    have cY := KY2.out.cell; have lY := KY2.out.lt
    have cP := KP2.out.cell; have lP := KP2.out.lt
    have cZ := KZ2.out.cell; have lZ := KZ2.out.lt
    have cD := KD2.out.cell; have lD := KD2.out.lt
    have cU := KU2a.out.cell; have lU := KU2a.out.lt
    go_wp2_with fail
    clear cX lX cY lY cP lP cZ lZ cD lD cU lU
    refine (CA.out _).mono ?_; rintro e w3 ⟨rfl, hb⟩
    have HB3 := hide (bthen HB2a.out HB2a.out.size hb)
    have KX3 := hide (KX2a.out.below hb KX2a.out.lt)
    have KY3 := hide (KY2a.out.below hb KY2a.out.lt)
    have KP3 := hide (KP2a.out.below hb KP2a.out.lt)
    have KZ3 := hide (KZ2a.out.below hb KZ2a.out.lt)
    have KD3 := hide (KD2a.out.below hb KD2a.out.lt)
    have KU3 := hide (KU2a.out.below hb KU2a.out.lt)
    clear hb
    have cX := KX3.out.cell; have lX := KX3.out.lt; have fX := KX3.out.free
    have cY := KY3.out.cell; have lY := KY3.out.lt; have fY := KY3.out.free
    have cP := KP3.out.cell; have lP := KP3.out.lt; have fP := KP3.out.free
    have cZ := KZ3.out.cell; have lZ := KZ3.out.lt; have fZ := KZ3.out.free
    have cD := KD3.out.cell; have lD := KD3.out.lt; have fD := KD3.out.free
    have cU := KU3.out.cell; have lU := KU3.out.lt; have fU := KU3.out.free
    go_wp2
    refine bodyPost_ret (v := .tuple #[.agg #[.int .i64 n3, .int .i64 m3], .bool false]) (by simp [results, Tryz.results188, go_sem, cZ, lZ, fZ]) rfl ?_
    refine ⟨⟨n3, m3, by rw [HD.out], fun h => absurd h HN.out⟩, by have hb := HB3.out; have hz := hb.size; exact (by repeat (first | with_reducible exact Below.refl _ _ | with_reducible assumption | with_reducible refine Below.setCell ?_ (by first | omega | (simp; done) | (simp; omega)) _ | with_reducible refine Below.alloc ?_ (by first | omega | (simp; done) | (simp; omega)) _ | with_reducible refine Below.drew ?_ | with_reducible refine below_drewN ?_ _ | exact Below.refl _ _ | assumption | refine Below.drew ?_ | refine below_drewN ?_ _ | refine Below.alloc ?_ (by first | omega | (simp; done) | (simp; omega)) _ | refine Below.setCell ?_ (by first | omega | (simp; done) | (simp; omega)) _))⟩
  by_cases h2 : c2 = 0
  rotate_left
  ·
    have q1 : (c1 == 0) = true := beqI_t h1; have q2 : (c2 == 0) = false := beqI_f h2
    have HD := hide (show decide ((onFr p x y s).2 = 0) = false by rw [O2.out h1 h2]; exact decide_eq_false h2)
    have HN := hide (show ¬ (onFr p x y s).2 = 0 by rw [O2.out h1 h2]; exact h2); clear h1 h2
    go_enter Tryz.func188, Tryz.ntmps188
    go_wp2_with fail
    rw [HW0.out]
    refine (CS.out _).mono ?_; rintro e w1 ⟨rfl, hb⟩
    have HB1 := hide (bthen HB0.out HB0.out.size hb)
    have KX1 := hide (KX0.out.below hb KX0.out.lt)
    have KY1 := hide (KY0.out.below hb KY0.out.lt)
    have KP1 := hide (KP0.out.below hb KP0.out.lt)
    have KZ1 := hide (KZ0.out.below hb KZ0.out.lt)
    clear hb
    have h_ := HB1.out.size; have HB1a := hide (HB1.out.alloc h_ (.cells #[.int .i64 n1, .int .i64 m1] 64)); clear h_
    have KX1a := hide (KX1.out.alloc (.cells #[.int .i64 n1, .int .i64 m1] 64))
    have KY1a := hide (KY1.out.alloc (.cells #[.int .i64 n1, .int .i64 m1] 64))
    have KP1a := hide (KP1.out.alloc (.cells #[.int .i64 n1, .int .i64 m1] 64))
    have KZ1a := hide (KZ1.out.alloc (.cells #[.int .i64 n1, .int .i64 m1] 64))
    have KD1a := hide (Bk.born w1 64 #[.int .i64 n1, .int .i64 m1])
    have cX := KX1.out.cell; have lX := KX1.out.lt
    have cY := KY1.out.cell; have lY := KY1.out.lt
    have cP := KP1.out.cell; have lP := KP1.out.lt
    have cZ := KZ1.out.cell; have lZ := KZ1.out.lt
    have cD := KD1a.out.cell; have lD := KD1a.out.lt
    go_wp2_with fail
    clear cX lX cY lY cP lP cZ lZ cD lD
    refine (CM.out _).mono ?_; rintro e w2 ⟨rfl, hb⟩
    have HB2 := hide (bthen HB1a.out HB1a.out.size hb)
    have KX2 := hide (KX1a.out.below hb KX1a.out.lt)
    have KY2 := hide (KY1a.out.below hb KY1a.out.lt)
    have KP2 := hide (KP1a.out.below hb KP1a.out.lt)
    have KZ2 := hide (KZ1a.out.below hb KZ1a.out.lt)
    have KD2 := hide (KD1a.out.below hb KD1a.out.lt)
    clear hb
    have h_ := HB2.out.size; have HB2a := hide (HB2.out.alloc h_ (.cells #[.int .i64 n2, .int .i64 m2] 64)); clear h_
    have KX2a := hide (KX2.out.alloc (.cells #[.int .i64 n2, .int .i64 m2] 64))
    have KY2a := hide (KY2.out.alloc (.cells #[.int .i64 n2, .int .i64 m2] 64))
    have KP2a := hide (KP2.out.alloc (.cells #[.int .i64 n2, .int .i64 m2] 64))
    have KZ2a := hide (KZ2.out.alloc (.cells #[.int .i64 n2, .int .i64 m2] 64))
    have KD2a := hide (KD2.out.alloc (.cells #[.int .i64 n2, .int .i64 m2] 64))
    have KU2a := hide (Bk.born w2 64 #[.int .i64 n2, .int .i64 m2])
    have cX := KX2.out.cell; have lX := KX2.out.lt
    have cY := KY2.out.cell; have lY := KY2.out.lt
    have cP := KP2.out.cell; have lP := KP2.out.lt
    have cZ := KZ2.out.cell; have lZ := KZ2.out.lt
    have cD := KD2.out.cell; have lD := KD2.out.lt
    have cU := KU2a.out.cell; have lU := KU2a.out.lt
    go_wp2_with fail
    clear cX lX cY lY cP lP cZ lZ cD lD cU lU
    refine (CA.out _).mono ?_; rintro e w3 ⟨rfl, hb⟩
    have HB3 := hide (bthen HB2a.out HB2a.out.size hb)
    have KX3 := hide (KX2a.out.below hb KX2a.out.lt)
    have KY3 := hide (KY2a.out.below hb KY2a.out.lt)
    have KP3 := hide (KP2a.out.below hb KP2a.out.lt)
    have KZ3 := hide (KZ2a.out.below hb KZ2a.out.lt)
    have KD3 := hide (KD2a.out.below hb KD2a.out.lt)
    have KU3 := hide (KU2a.out.below hb KU2a.out.lt)
    clear hb
    have cX := KX3.out.cell; have lX := KX3.out.lt; have fX := KX3.out.free
    have cY := KY3.out.cell; have lY := KY3.out.lt; have fY := KY3.out.free
    have cP := KP3.out.cell; have lP := KP3.out.lt; have fP := KP3.out.free
    have cZ := KZ3.out.cell; have lZ := KZ3.out.lt; have fZ := KZ3.out.free
    have cD := KD3.out.cell; have lD := KD3.out.lt; have fD := KD3.out.free
    have cU := KU3.out.cell; have lU := KU3.out.lt; have fU := KU3.out.free
    go_wp2
    refine bodyPost_ret (v := .tuple #[.agg #[.int .i64 n3, .int .i64 m3], .bool false]) (by simp [results, Tryz.results188, go_sem, cZ, lZ, fZ]) rfl ?_
    refine ⟨⟨n3, m3, by rw [HD.out], fun h => absurd h HN.out⟩, by have hb := HB3.out; have hz := hb.size; exact (by repeat (first | with_reducible exact Below.refl _ _ | with_reducible assumption | with_reducible refine Below.setCell ?_ (by first | omega | (simp; done) | (simp; omega)) _ | with_reducible refine Below.alloc ?_ (by first | omega | (simp; done) | (simp; omega)) _ | with_reducible refine Below.drew ?_ | with_reducible refine below_drewN ?_ _ | exact Below.refl _ _ | assumption | refine Below.drew ?_ | refine below_drewN ?_ _ | refine Below.alloc ?_ (by first | omega | (simp; done) | (simp; omega)) _ | refine Below.setCell ?_ (by first | omega | (simp; done) | (simp; omega)) _))⟩
  by_cases h3 : c3 = 0
  rotate_left
  ·
    have q1 : (c1 == 0) = true := beqI_t h1; have q2 : (c2 == 0) = true := beqI_t h2; have q3 : (c3 == 0) = false := beqI_f h3
    have HD := hide (show decide ((onFr p x y s).2 = 0) = false by rw [O3.out h1 h2]; exact decide_eq_false h3)
    have HN := hide (show ¬ (onFr p x y s).2 = 0 by rw [O3.out h1 h2]; exact h3); clear h1 h2 h3
    go_enter Tryz.func188, Tryz.ntmps188
    go_wp2_with fail
    rw [HW0.out]
    refine (CS.out _).mono ?_; rintro e w1 ⟨rfl, hb⟩
    have HB1 := hide (bthen HB0.out HB0.out.size hb)
    have KX1 := hide (KX0.out.below hb KX0.out.lt)
    have KY1 := hide (KY0.out.below hb KY0.out.lt)
    have KP1 := hide (KP0.out.below hb KP0.out.lt)
    have KZ1 := hide (KZ0.out.below hb KZ0.out.lt)
    clear hb
    have h_ := HB1.out.size; have HB1a := hide (HB1.out.alloc h_ (.cells #[.int .i64 n1, .int .i64 m1] 64)); clear h_
    have KX1a := hide (KX1.out.alloc (.cells #[.int .i64 n1, .int .i64 m1] 64))
    have KY1a := hide (KY1.out.alloc (.cells #[.int .i64 n1, .int .i64 m1] 64))
    have KP1a := hide (KP1.out.alloc (.cells #[.int .i64 n1, .int .i64 m1] 64))
    have KZ1a := hide (KZ1.out.alloc (.cells #[.int .i64 n1, .int .i64 m1] 64))
    have KD1a := hide (Bk.born w1 64 #[.int .i64 n1, .int .i64 m1])
    have cX := KX1.out.cell; have lX := KX1.out.lt
    have cY := KY1.out.cell; have lY := KY1.out.lt
    have cP := KP1.out.cell; have lP := KP1.out.lt
    have cZ := KZ1.out.cell; have lZ := KZ1.out.lt
    have cD := KD1a.out.cell; have lD := KD1a.out.lt
    go_wp2_with fail
    clear cX lX cY lY cP lP cZ lZ cD lD
    refine (CM.out _).mono ?_; rintro e w2 ⟨rfl, hb⟩
    have HB2 := hide (bthen HB1a.out HB1a.out.size hb)
    have KX2 := hide (KX1a.out.below hb KX1a.out.lt)
    have KY2 := hide (KY1a.out.below hb KY1a.out.lt)
    have KP2 := hide (KP1a.out.below hb KP1a.out.lt)
    have KZ2 := hide (KZ1a.out.below hb KZ1a.out.lt)
    have KD2 := hide (KD1a.out.below hb KD1a.out.lt)
    clear hb
    have h_ := HB2.out.size; have HB2a := hide (HB2.out.alloc h_ (.cells #[.int .i64 n2, .int .i64 m2] 64)); clear h_
    have KX2a := hide (KX2.out.alloc (.cells #[.int .i64 n2, .int .i64 m2] 64))
    have KY2a := hide (KY2.out.alloc (.cells #[.int .i64 n2, .int .i64 m2] 64))
    have KP2a := hide (KP2.out.alloc (.cells #[.int .i64 n2, .int .i64 m2] 64))
    have KZ2a := hide (KZ2.out.alloc (.cells #[.int .i64 n2, .int .i64 m2] 64))
    have KD2a := hide (KD2.out.alloc (.cells #[.int .i64 n2, .int .i64 m2] 64))
    have KU2a := hide (Bk.born w2 64 #[.int .i64 n2, .int .i64 m2])
    have cX := KX2.out.cell; have lX := KX2.out.lt
    have cY := KY2.out.cell; have lY := KY2.out.lt
    have cP := KP2.out.cell; have lP := KP2.out.lt
    have cZ := KZ2.out.cell; have lZ := KZ2.out.lt
    have cD := KD2.out.cell; have lD := KD2.out.lt
    have cU := KU2a.out.cell; have lU := KU2a.out.lt
    go_wp2_with fail
    clear cX lX cY lY cP lP cZ lZ cD lD cU lU
    refine (CA.out _).mono ?_; rintro e w3 ⟨rfl, hb⟩
    have HB3 := hide (bthen HB2a.out HB2a.out.size hb)
    have KX3 := hide (KX2a.out.below hb KX2a.out.lt)
    have KY3 := hide (KY2a.out.below hb KY2a.out.lt)
    have KP3 := hide (KP2a.out.below hb KP2a.out.lt)
    have KZ3 := hide (KZ2a.out.below hb KZ2a.out.lt)
    have KD3 := hide (KD2a.out.below hb KD2a.out.lt)
    have KU3 := hide (KU2a.out.below hb KU2a.out.lt)
    clear hb
    have cX := KX3.out.cell; have lX := KX3.out.lt; have fX := KX3.out.free
    have cY := KY3.out.cell; have lY := KY3.out.lt; have fY := KY3.out.free
    have cP := KP3.out.cell; have lP := KP3.out.lt; have fP := KP3.out.free
    have cZ := KZ3.out.cell; have lZ := KZ3.out.lt; have fZ := KZ3.out.free
    have cD := KD3.out.cell; have lD := KD3.out.lt; have fD := KD3.out.free
    have cU := KU3.out.cell; have lU := KU3.out.lt; have fU := KU3.out.free
    go_wp2
    refine bodyPost_ret (v := .tuple #[.agg #[.int .i64 n3, .int .i64 m3], .bool false]) (by simp [results, Tryz.results188, go_sem, cZ, lZ, fZ]) rfl ?_
    refine ⟨⟨n3, m3, by rw [HD.out], fun h => absurd h HN.out⟩, by have hb := HB3.out; have hz := hb.size; exact (by repeat (first | with_reducible exact Below.refl _ _ | with_reducible assumption | with_reducible refine Below.setCell ?_ (by first | omega | (simp; done) | (simp; omega)) _ | with_reducible refine Below.alloc ?_ (by first | omega | (simp; done) | (simp; omega)) _ | with_reducible refine Below.drew ?_ | with_reducible refine below_drewN ?_ _ | exact Below.refl _ _ | assumption | refine Below.drew ?_ | refine below_drewN ?_ _ | refine Below.alloc ?_ (by first | omega | (simp; done) | (simp; omega)) _ | refine Below.setCell ?_ (by first | omega | (simp; done) | (simp; omega)) _))⟩
  have q1 : (c1 == 0) = true := beqI_t h1; have q2 : (c2 == 0) = true := beqI_t h2; have q3 : (c3 == 0) = true := beqI_t h3
  have HD := hide (show decide ((onFr p x y s).2 = 0) = true by rw [O3.out h1 h2]; exact decide_eq_true h3)
  have HN := hide (show onFr p x y s = (⟨n3, m3⟩, 0) by rw [O3.out h1 h2, h3]); clear h1 h2 h3
  go_enter Tryz.func188, Tryz.ntmps188
  go_wp2_with fail
  rw [HW0.out]
  refine (CS.out _).mono ?_; rintro e w1 ⟨rfl, hb⟩
  have HB1 := hide (bthen HB0.out HB0.out.size hb)
  have KX1 := hide (KX0.out.below hb KX0.out.lt)
  have KY1 := hide (KY0.out.below hb KY0.out.lt)
  have KP1 := hide (KP0.out.below hb KP0.out.lt)
  have KZ1 := hide (KZ0.out.below hb KZ0.out.lt)
  clear hb
  have h_ := HB1.out.size; have HB1a := hide (HB1.out.alloc h_ (.cells #[.int .i64 n1, .int .i64 m1] 64)); clear h_
  have KX1a := hide (KX1.out.alloc (.cells #[.int .i64 n1, .int .i64 m1] 64))
  have KY1a := hide (KY1.out.alloc (.cells #[.int .i64 n1, .int .i64 m1] 64))
  have KP1a := hide (KP1.out.alloc (.cells #[.int .i64 n1, .int .i64 m1] 64))
  have KZ1a := hide (KZ1.out.alloc (.cells #[.int .i64 n1, .int .i64 m1] 64))
  have KD1a := hide (Bk.born w1 64 #[.int .i64 n1, .int .i64 m1])
  have cX := KX1.out.cell; have lX := KX1.out.lt
  have cY := KY1.out.cell; have lY := KY1.out.lt
  have cP := KP1.out.cell; have lP := KP1.out.lt
  have cZ := KZ1.out.cell; have lZ := KZ1.out.lt
  have cD := KD1a.out.cell; have lD := KD1a.out.lt
  go_wp2_with fail
  clear cX lX cY lY cP lP cZ lZ cD lD
  refine (CM.out _).mono ?_; rintro e w2 ⟨rfl, hb⟩
  have HB2 := hide (bthen HB1a.out HB1a.out.size hb)
  have KX2 := hide (KX1a.out.below hb KX1a.out.lt)
  have KY2 := hide (KY1a.out.below hb KY1a.out.lt)
  have KP2 := hide (KP1a.out.below hb KP1a.out.lt)
  have KZ2 := hide (KZ1a.out.below hb KZ1a.out.lt)
  have KD2 := hide (KD1a.out.below hb KD1a.out.lt)
  clear hb
  have h_ := HB2.out.size; have HB2a := hide (HB2.out.alloc h_ (.cells #[.int .i64 n2, .int .i64 m2] 64)); clear h_
  have KX2a := hide (KX2.out.alloc (.cells #[.int .i64 n2, .int .i64 m2] 64))
  have KY2a := hide (KY2.out.alloc (.cells #[.int .i64 n2, .int .i64 m2] 64))
  have KP2a := hide (KP2.out.alloc (.cells #[.int .i64 n2, .int .i64 m2] 64))
  have KZ2a := hide (KZ2.out.alloc (.cells #[.int .i64 n2, .int .i64 m2] 64))
  have KD2a := hide (KD2.out.alloc (.cells #[.int .i64 n2, .int .i64 m2] 64))
  have KU2a := hide (Bk.born w2 64 #[.int .i64 n2, .int .i64 m2])
  have cX := KX2.out.cell; have lX := KX2.out.lt
  have cY := KY2.out.cell; have lY := KY2.out.lt
  have cP := KP2.out.cell; have lP := KP2.out.lt
  have cZ := KZ2.out.cell; have lZ := KZ2.out.lt
  have cD := KD2.out.cell; have lD := KD2.out.lt
  have cU := KU2a.out.cell; have lU := KU2a.out.lt
  go_wp2_with fail
  clear cX lX cY lY cP lP cZ lZ cD lD cU lU
  refine (CA.out _).mono ?_; rintro e w3 ⟨rfl, hb⟩
  have HB3 := hide (bthen HB2a.out HB2a.out.size hb)
  have KX3 := hide (KX2a.out.below hb KX2a.out.lt)
  have KY3 := hide (KY2a.out.below hb KY2a.out.lt)
  have KP3 := hide (KP2a.out.below hb KP2a.out.lt)
  have KZ3 := hide (KZ2a.out.below hb KZ2a.out.lt)
  have KD3 := hide (KD2a.out.below hb KD2a.out.lt)
  have KU3 := hide (KU2a.out.below hb KU2a.out.lt)
  clear hb
  have cX := KX3.out.cell; have lX := KX3.out.lt; have fX := KX3.out.free
  have cY := KY3.out.cell; have lY := KY3.out.lt; have fY := KY3.out.free
  have cP := KP3.out.cell; have lP := KP3.out.lt; have fP := KP3.out.free
  have cZ := KZ3.out.cell; have lZ := KZ3.out.lt; have fZ := KZ3.out.free
  have cD := KD3.out.cell; have lD := KD3.out.lt; have fD := KD3.out.free
  have cU := KU3.out.cell; have lU := KU3.out.lt; have fU := KU3.out.free
  go_wp2
  refine bodyPost_ret (v := .tuple #[.agg #[.int .i64 n3, .int .i64 m3], .bool true]) (by simp [results, Tryz.results188, go_sem, cZ, lZ, fZ]) rfl ?_
  refine ⟨⟨n3, m3, by rw [HD.out], fun h => HN.out⟩, by have hb := HB3.out; have hz := hb.size; exact (by repeat (first | with_reducible exact Below.refl _ _ | with_reducible assumption | with_reducible refine Below.setCell ?_ (by first | omega | (simp; done) | (simp; omega)) _ | with_reducible refine Below.alloc ?_ (by first | omega | (simp; done) | (simp; omega)) _ | with_reducible refine Below.drew ?_ | with_reducible refine below_drewN ?_ _ | exact Below.refl _ _ | assumption | refine Below.drew ?_ | refine below_drewN ?_ _ | refine Below.alloc ?_ (by first | omega | (simp; done) | (simp; omega)) _ | refine Below.setCell ?_ (by first | omega | (simp; done) | (simp; omega)) _))⟩
end Go.Proofs.YteiflbhcehajkaaGreatDoor
