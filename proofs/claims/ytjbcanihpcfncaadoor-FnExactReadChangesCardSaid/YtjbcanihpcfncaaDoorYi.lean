/- Contracts: changes read from their text, by the program. -/
import Derived.Test.YtjbcanihpcfncaaDoorYh
import Derived.Test.YtjbcanihpcfncaaDoorVd
import Derived.Test.YtjbcanihpcfncaaDoorXa
namespace Go.Proofs.YtjbcanihpcfncaaDoor
open Go.RowKit
theorem rcI_val {s : ByteArray} (h : (linesF s).all (fun l => pOk l.data.toList) = true) :
    rcI s = if chgS ((linesF s).map fun l => pI l.data.toList) = true ∧ mkS (txtCs ((linesF s).map fun l => pI l.data.toList)) = s then some ((linesF s).map fun l => pI l.data.toList) else none := by
  unfold rcI; rw [h]; simp
theorem rcI_no {s : ByteArray} {k : Nat} {x : ByteArray} (hk : (linesF s)[k]? = some x) (h : pOk x.data.toList = false) : rcI s = none := by
  unfold rcI
  rw [if_neg]
  rintro ⟨h1, _⟩
  have := List.all_eq_true.1 h1 x (List.mem_of_getElem? hk)
  rw [h] at this; cases this
theorem line_bd (s : ByteArray) : ∀ x ∈ linesF s, x.size ≤ s.size := by
  intro x hx
  have hj := parts_join s.data.toList
  have hls : linesF s = ((partsL 10 s.data.toList).dropLast).map mkS := by unfold linesF partsB; rw [List.map_dropLast]
  rw [hls] at hx
  obtain ⟨p, hp, rfl⟩ := List.mem_map.1 hx
  have h1 : p.length + 1 ≤ (((partsL 10 s.data.toList).dropLast).flatMap fun p => p ++ [10]).length := by
    generalize (partsL 10 s.data.toList).dropLast = L at *
    clear hj hx hls
    induction L with
    | nil => simp at hp
    | cons a t ih =>
      rw [List.flatMap_cons, List.length_append, List.length_append, List.length_singleton]
      rcases List.mem_cons.1 hp with rfl | hp
      · omega
      · have := ih hp; omega
  have h2 := congrArg List.length hj
  rw [List.length_append] at h2
  have h3 : s.data.toList.length = s.size := Array.length_toList
  rw [size_mkS]
  omega
theorem pI_t_bd (l : List UInt8) : (pI l).t.size ≤ l.length := by
  unfold pI rsL
  rw [size_mkS, List.length_drop]; omega
theorem grown_step {w1 a b : World} {g : Nat} {r : Option Nat} (h : w1.grownBy a (some g)) (k : a.grownBy b r) (hr : ∀ x, r = some x → x = g ∨ w1.heap.size ≤ x) : w1.grownBy b (some g) :=
  ⟨k.os.trans h.os, k.tape.trans h.tape, k.output.trans h.output, Nat.le_trans h.size k.size, fun x hx hne => (k.block x (Nat.lt_of_lt_of_le hx h.size) (fun e => by
    rcases hr x e.symm with rfl | h2
    · exact hne rfl
    · omega)).trans (h.block x hx hne)⟩
set_option maxHeartbeats 2000000 in
set_option maxRecDepth 20000 in
theorem c_iRead (s : ByteArray) (w : World) (hs : s.size ≤ 1048576) (ht : TB w) (hev : EV w) :
    Calls Tryd.prog 5 #[.string s] w fun e w' => ∃ v, e = .returned (.tuple #[v, .bool (rcI s).isSome]) ∧ OwC 35 w' w.heap.size v ((rcI s).getD []) ∧ Below w.heap.size w w' := by
  have hlb := line_bd s
  have hnl : (linesF s).length ≤ 1048576 := by rw [length_linesF]; exact Nat.le_trans (count_le s) hs
  have HNO := hide (fun (k : Nat) x (h1 : (linesF s)[k]? = some x) h2 => rcI_no h1 h2)
  have HVAL := hide (fun h => rcI_val (s := s) h)
  have HSP := hide (c_splitLines s · hs)
  have HT := hide ht; have HE := hide hev; have HLB := hide hlb
  clear ht hev hlb
  generalize linesF s = ls at *
  generalize hR : rcI s = R at *
  have HRR := hide hR; clear hR
  go_enter Tryd.func5, Tryd.ntmps5
  go_wp2_with fail
  refine (HSP.out _).mono ?_; rintro e w1 ⟨v, rfl, ho, hb⟩
  have HB1 := hide (show Below w.heap.size w w1 from bthen ((Below.refl _ _).alloc (Nat.le_refl _) _) (by simp) hb)
  have hs1 : w.heap.size + 1 ≤ w1.heap.size := by have := hb.size; simpa using this
  have hlt1 := ho.lt
  have HN1 : Sec (OwC 35 w1 w.heap.size (.slice (some ⟨w.heap.size, 0, none⟩) 0 0) []) := hide ((new_chg w).all hb)
  obtain ⟨A, cap, rfl, hl, hcc, hx⟩ := ho.rd.openS
  have HX := hide hx; have HL1 := hide hlt1; clear hx ho hb hlt1
  go_wp2
  go_loopw [4, 13] (fun o iv wr => ∃ k : Nat, k ≤ ls.length ∧ iv = .int .i64 (k : Int) ∧ (ls.take k).all (fun l => pOk l.data.toList) = true ∧ OwC 35 wr w.heap.size o ((ls.take k).map fun l => pI l.data.toList) ∧ Below w.heap.size w wr ∧ w1.grownBy wr (some w.heap.size) ∧ ∀ b, o.ownBlock = some b → b = w.heap.size ∨ w1.heap.size ≤ b) (fun _ iv _ => ls.length - (intOf iv).toNat)
  case atStart => exact ⟨0, Nat.zero_le _, rfl, rfl, HN1.out, HB1.out, World.grownBy.refl _ _, fun b hb => .inl (by simpa [Value.ownBlock] using hb.symm)⟩
  case round =>
    obtain ⟨k, hk, rfl, hok, ho, hb, hbb, hob⟩ := hrel
    have HOB := hide hob; clear hob
    have HOK := hide hok; have HO := hide ho; have HB := hide hb; have HBB := hide hbb
    have hsz := hbb.size
    clear hok ho hb hbb
    by_cases hlt : k < ls.length
    · have hgc := List.getElem?_eq_getElem hlt
      obtain ⟨b, off, rfl, hbw, e0⟩ := HX.out k _ hgc
      have hbn : b ≠ w.heap.size := by have := (HL1.out b rfl).1; simp at this; omega
      have d0 := HBB.out.cell e0 (by simpa using hbn)
      have hzz : (ls[k]).size ≤ 1048576 := Nat.le_trans (HLB.out _ (List.getElem_mem hlt)) hs
      generalize hg : ls[k] = x at *
      have HG := hide hgc; clear hg hgc e0
      have HC := hide (c_readChange x wr hzz (HT.out.below HB.out) (HE.out.below HB.out))
      generalize hP : pI x.data.toList = p at *
      cases hq : pOk x.data.toList
      · rw [hq] at HC
        have HNX := hide (HNO.out k x HG.out hq)
        clear hq
        go_wp2_with (go_at_call 15; refine HC.out.mono ?_; rintro e w2 ⟨rfl, hb2⟩; have HB2 := hide (bthen HB.out HB.out.size hb2); clear hb2)
        go_ret2
        have hB := HB2.out
        have hsB := hB.size
        exact ⟨_, by rw [HNX.out]; rfl, by rw [HNX.out]; exact OwG.nil_ chgV_len _ _ _, (by repeat (first | with_reducible exact Below.refl _ _ | with_reducible assumption | with_reducible refine Below.setCell ?_ (by first | omega | (simp; done) | (simp; omega)) _ | with_reducible refine Below.alloc ?_ (by first | omega | (simp; done) | (simp; omega)) _ | with_reducible refine Below.drew ?_ | with_reducible refine below_drewN ?_ _ | exact Below.refl _ _ | assumption | refine Below.drew ?_ | refine below_drewN ?_ _ | refine Below.alloc ?_ (by first | omega | (simp; done) | (simp; omega)) _ | refine Below.setCell ?_ (by first | omega | (simp; done) | (simp; omega)) _))⟩
      · rw [hq] at HC
        have hl2 : ((ls.take k).map fun l => pI l.data.toList).length + 1 ≤ 4398046511104 := by rw [List.length_map, List.length_take]; omega
        have HNEW : Sec ((ls.take (k + 1)).map (fun l => pI l.data.toList) = (ls.take k).map (fun l => pI l.data.toList) ++ [p]) := hide (by rw [take_snoc_of HG.out]; simp [hP])
        have HOK2 : Sec ((ls.take (k + 1)).all (fun l => pOk l.data.toList) = true) := hide (by rw [take_snoc_of HG.out, List.all_append, HOK.out]; simp [hq])
        have HPP := hide hP
        clear hq hP
        generalize hM : (ls.take k).map (fun l => pI l.data.toList) = M at *
        have HM := hide hM; clear hM
        go_wp2_with (first | (go_at_call 15; refine HC.out.mono ?_; rintro e w2 ⟨rfl, hb2⟩; have hs2 := hb2.size; have HO2 := hide (HO.out.all hb2); have HB2 := hide (bthen HB.out HB.out.size hb2); have HBB2 := hide (HBB.out.trans (grown_below hb2 (some w.heap.size))); have HOB2 := HOB; clear hb2) | (at_builtin; refine app1_chg (c := p) rfl _ _ rfl rfl (HO2.out.all ((Below.refl _ _).alloc (Nat.le_refl _) _)) (by first | rfl | (show Value.slice (some ⟨w2.heap.size + 1, 0, none⟩) 1 1 = _; simp)) hl2 (by have := HB2.out.size; simp; omega) ?_; intro v4 w4 ho4 hg4 hv4; have hs4 := hg4.size; have hb4 := below_own (HB2.out.alloc HB2.out.size _) (HO2.out.all ((Below.refl _ _).alloc (Nat.le_refl _) _)).2 hg4 (Nat.le_refl _) (by have := HB2.out.size; simp; omega); have HB4 := hide hb4; have HO4 := hide ho4; have HV4 := hide hv4; have HG4 := hide hg4; clear hb4 ho4 hv4))
        go_roundw
        case rel => exact ⟨k + 1, by omega, by go_num, HOK2.out, by rw [HNEW.out]; exact HO4.out, HB4.out, grown_step (HBB2.out.trans (World.grownBy_alloc _ _ _)) HG4.out HOB.out, fun b hb => by
          rcases HV4.out b hb with h | h
          · exact HOB.out b h
          · right; have := HBB2.out.size; simp at h; omega⟩
        case measure => simp [intOf]; omega
    · have hkl : k = ls.length := by omega
      subst hkl
      have hall : ls.all (fun l => pOk l.data.toList) = true := by have := HOK.out; rwa [List.take_length] at this
      have HV := hide (HVAL.out hall)
      have hO2 := HO.out
      rw [List.take_length] at hO2
      have HO2 := hide hO2; clear hO2 hall HO
      have hz : ∀ c ∈ ls.map (fun l => pI l.data.toList), c.t.size ≤ 1048576 := by
        intro c hc
        obtain ⟨x, hx, rfl⟩ := List.mem_map.1 hc
        have h1 := pI_t_bd x.data.toList
        have h2 := HLB.out x hx
        rw [Array.length_toList] at h1
        exact Nat.le_trans h1 (Nat.le_trans h2 hs)
      have HZ := hide hz; clear hz
      generalize hM : ls.map (fun l => pI l.data.toList) = M at *
      have HM := hide hM; clear hM
      cases hv : chgS M
      · have hr : R = none := by rw [HV.out, hv]; simp
        have HRN := hide hr; have HVV := hide hv; clear hr hv
        go_wp2_with (go_at_call 16; refine (c_areChanges _ M _ HO2.out.rd).mono ?_; rintro e w2 ⟨rfl, hb2⟩; rw [HVV.out]; have HB2 := hide (bthen HB.out HB.out.size hb2); clear hb2)
        go_ret2
        exact ⟨_, by rw [HRN.out]; rfl, by rw [HRN.out]; exact OwG.nil_ chgV_len _ _ _, HB2.out⟩
      · have HVV := hide hv
        by_cases hq : mkS (txtCs M) = s
        · have hr : R = some M := by rw [HV.out, if_pos ⟨hv, hq⟩]
          have hne : ((mkS (txtCs M)).toList == s.toList) = true := by rw [str_eq]; exact decide_eq_true hq
          have HRN := hide hr
          clear hr hv hq
          have HCT := hide (fun v w h1 h2 => c_changesText v M w h1 h2 HVV.out HZ.out)
          generalize mkS (txtCs M) = X at *
          go_wp2_with (first | (go_at_call 16; refine (c_areChanges _ M _ HO2.out.rd).mono ?_; rintro e w2 ⟨rfl, hb2⟩; rw [HVV.out]; have HO3 := hide (HO2.out.all hb2); have HB2 := hide (bthen HB.out HB.out.size hb2); clear hb2) | (go_at_call 17; refine (HCT.out _ _ HO3.out.rd (HT.out.below HB2.out)).mono ?_; rintro e w3 ⟨rfl, hb3⟩; have HO4 := hide (HO3.out.all hb3); have HB3 := hide (bthen HB2.out HB2.out.size hb3); clear hb3))
          go_ret2
          exact ⟨_, by rw [HRN.out]; rfl, by rw [HRN.out]; exact HO4.out, HB3.out⟩
        · have hr : R = none := by rw [HV.out, if_neg (fun h => hq h.2)]
          have hne : ((mkS (txtCs M)).toList == s.toList) = false := by rw [str_eq]; exact decide_eq_false hq
          have HRN := hide hr
          clear hr hv hq
          have HCT := hide (fun v w h1 h2 => c_changesText v M w h1 h2 HVV.out HZ.out)
          generalize mkS (txtCs M) = X at *
          go_wp2_with (first | (go_at_call 16; refine (c_areChanges _ M _ HO2.out.rd).mono ?_; rintro e w2 ⟨rfl, hb2⟩; rw [HVV.out]; have HO3 := hide (HO2.out.all hb2); have HB2 := hide (bthen HB.out HB.out.size hb2); clear hb2) | (go_at_call 17; refine (HCT.out _ _ HO3.out.rd (HT.out.below HB2.out)).mono ?_; rintro e w3 ⟨rfl, hb3⟩; have HB3 := hide (bthen HB2.out HB2.out.size hb3); clear hb3))
          go_ret2
          exact ⟨_, by rw [HRN.out]; rfl, by rw [HRN.out]; exact OwG.nil_ chgV_len _ _ _, HB3.out⟩
end Go.Proofs.YtjbcanihpcfncaaDoor
