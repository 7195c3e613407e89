/- Contract: AppendSignal of the program. -/
import Derived.Test.YtpmflkoepnanoaaGreatKa
import Derived.Deep.RegionHeld3
import Derived.Deep.RegionHeldLaw
namespace Go.Proofs.YtpmflkoepnanoaaGreat
open Go.RowKit
/-- A new slice behind a new block, and a draw. -/
theorem one_new (w : World) (t : TypeId) (cs : Array Value) : ∃ w3, w3 = ((w.alloc (.cells cs t)).alloc (.cells #[] 2)).drew ∧
    OwI 2 w3 (w.heap.size + 1) (.slice (some ⟨w.heap.size + 1, 0, none⟩) 0 0) [] ∧ Bk w3 w.heap.size t cs ∧ Below w.heap.size w w3 ∧ w3.heap.size = w.heap.size + 2 := by
  have h1 := new_i64 (w.alloc (.cells cs t))
  have e1 : (w.alloc (.cells cs t)).heap.size = w.heap.size + 1 := by simp
  rw [e1] at h1
  exact ⟨_, rfl, h1, ((Bk.born w t cs).alloc _), Below.drew (((Below.refl _ _).alloc (Nat.le_refl _) _).alloc (by simp) _), by simp⟩
/-- append of all elements of a slice that reads, at a step of a region that draws its order. -/
theorem step_many {P : Program} {w : World} {ops : Array Oper} {o : Oper} {a : Act} {K : Act → World → Prop} {Q : Exit → Act → World → Prop} {E : Prop} (hgd : o.guard = none) (s x : Operand) (t : TypeId)
    (ho : o.op = .call { callee := .builtin .append, args := #[s, x], argTypes := #[t, t] })
    (base : Nat) (e : TypeId) (z : Value) (size bytes : Nat) (ht : P.underlying t = some (.slice e)) (hinfo : (P.info? e).map (fun i => (i.zero, i.size, i.bytes)) = some (some z, size, bytes))
    (hzs : z.cells.size = size) (hsz : 0 < size)
    (v : Value) (n : Nat) (xs : List Value) (hs : a.eval s = v) (hown : w.ownsRow base e size v n xs)
    (y : Value) (m : Nat) (ys : List Value) (hx : a.eval x = y) (hr : Rd w y size m ys) (h1 : ∀ u ∈ ys, u.oneCell' = true)
    (hbytes : (n + m) * bytes ≤ 140737488355328) (h63 : n + m ≤ maxLen) (hbase : base ≤ w.heap.size)
    (h : ∀ v' w', w'.ownsRow base e size v' (n + m) (xs ++ ys) → w.grownBy w' v.ownBlock → (∀ k, v'.ownBlock = some k → v.ownBlock = some k ∨ w.heap.size ≤ k) → K (a.put o.dst v') w') :
    if Region.wanted o (yielded ops a.tmps) = true then Oper.wp P o a w K Q else E := by
  have hw : Region.wanted o (yielded ops a.tmps) = true := by simp [Region.wanted, hgd]
  rw [if_pos hw]
  obtain ⟨i0, hi, hz0, hz1, hz2⟩ := info_parts hinfo
  obtain ⟨hl, A, cap, rfl, hc1, hc2, hcell⟩ := hr
  rcases Nat.eq_zero_or_pos m with hm | hm
  · subst hm
    have hn : ys = [] := List.eq_nil_of_length_eq_zero (by simpa using hl)
    subst hn
    have hrun : (Builtin.append_ #[t, t] o.type #[v, .slice A 0 cap]).run P w = .ok v w := by
      rcases hown.2 with ⟨rfl, rfl⟩ | ⟨g, cap', cur, rfl, _, _, hnc, _⟩
      · cases A <;> simp [Builtin.append_, run_underlying ht, sizeOf, typeInfo, hi, Builtin.lenOf, Builtin.firstCells, loadCells, loadCellsFrom]
      · cases A <;> simp [Builtin.append_, run_underlying ht, sizeOf, typeInfo, hi, Builtin.lenOf, Builtin.firstCells, hnc, storeCells, loadCells, loadCellsFrom]
    unfold Oper.wp execOp
    simp only [ho, resolve, invoke, builtin, Sem.run_bind, Sem.run_pure, Result.andThen_ok, List.map_toArray, List.map_cons, List.map_nil, hs, hx, hrun]
    exact h v w (by simpa using hown) (World.grownBy.refl _ _) fun k hk => .inl hk
  · obtain ⟨b, off, rfl, hb, hcc⟩ := hcell hm
    refine wp_append_lies w s x t ho base e i0 z size bytes ht hi hz0 hz1 hz2 hzs hsz v n xs hs hown ⟨b, off, none⟩ m cap ys hx hl ?_ h1 hm h63 hbytes hbase _ rfl ?_
    · intro j u hu
      rw [show (⟨b, off, none⟩ : Addr).add j = ⟨b, off + j, none⟩ by unfold Addr.add; split <;> simp_all]
      exact hcc j u hu
    · intro g cap' w' h2 h3 h4 _
      refine h _ w' h2 h3 fun k hk => ?_
      injection hk with hk
      subst hk
      rcases h4 with h4 | h4
      · exact .inl h4
      · exact .inr (by rw [h4]; exact Nat.le_refl _)
theorem step_i64 {w : World} {ops : Array Oper} {o : Oper} {a : Act} {K : Act → World → Prop} {Q : Exit → Act → World → Prop} {E : Prop} (hgd : o.guard = none) (s x : Operand)
    (ho : o.op = .call { callee := .builtin .append, args := #[s, x], argTypes := #[24, 24] }) {B : Nat} {v : Value} {xs : List Int} (hs : a.eval s = v) (hown : OwI 2 w B v xs)
    {y : Value} {ys : List Int} (hx : a.eval x = y) (hr : RdI w y ys) (hl : xs.length + ys.length ≤ 17592186044416) (hB : B ≤ w.heap.size)
    (h : ∀ v' w', OwI 2 w' B v' (xs ++ ys) → w.grownBy w' v.ownBlock → (∀ k, v'.ownBlock = some k → v.ownBlock = some k ∨ w.heap.size ≤ k) → K (a.put o.dst v') w') :
    if Region.wanted o (yielded ops a.tmps) = true then Oper.wp Tryz.prog o a w K Q else E :=
  step_many hgd s x _ ho B _ _ 1 8 Tryz.underlying24 info_i64 rfl (by omega) v xs.length _ hs hown y ys.length _ hx hr (ints_oneCell _ _) (by omega) (by unfold maxLen; omega) hB
    fun v' w' h1 h2 h3 => h v' w' (by unfold OwI; simpa using h1) h2 h3
set_option maxHeartbeats 1600000 in
set_option maxRecDepth 100000 in
theorem c_iAppendSignal (s : ByteArray) (v : Value) (xs : List Int) (w : World) (hs : s.size ≤ 1048576) (hr : RdI w v xs) : Calls Tryz.prog 14 #[.string s, v] w (StR (apdF s xs) w) := by
  have HR := hide hr
  obtain ⟨A0, cap0, rfl, hl0, hc0, hx0⟩ := hr.open_
  clear hr hx0
  cases hsg : sigB xs
  · have HE := hide (apd1 (s := s) hsg)
    go_enter Tryz.func14, Tryz.ntmps14
    go_wp2_with fail
    refine (openW_no s _ _ HR.out hsg).mono ?_; rintro e w1 ⟨t, n, f, A, l, cap, rfl, hb1⟩
    have HB1 := hide hb1; have hsz1 := hb1.size; clear hb1
    go_wp2
    go_ret2
    exact StR.mk HE.out (HB1.out.alloc hsz1 _)
  · have hsg2 := (sigB_true.1 hsg).1
    have HSS := hide (sigB_true.1 hsg).2
    have hxl : xs.length ≤ 4000 := by simpa using hsg2
    obtain ⟨ps, c, hp⟩ : ∃ ps c, placesF s = (ps, c) := ⟨_, _, rfl⟩
    by_cases hc : c = 0
    · subst hc
      obtain ⟨t, rfl, HO⟩ := opn_of hp hs
      have HPL := hide (fun v w h => openW_ok hp v w (by omega) h hsg)
      have hlen : (t.map (fun (n : Nat) => (n : Int))).length = cntF s + 1 := by rw [List.length_map]; exact HO.len
      have hcnt := HO.cnt
      have hf1 := HO.f1; have hf2 := HO.f2; have hn4 := HO.n4
      obtain ⟨M, hM⟩ : ∃ M, numS s 6 + xs.length = M := ⟨_, rfl⟩
      have eM : ((numS s 6 : Nat) : Int) + (xs.length : Int) = (M : Int) := by omega
      have hMb : M ≤ 8000 := by omega
      have aM : IntKind.i64.wrap (M : Int) = (M : Int) := IntWalk.i64_in _ (by omega)
      by_cases hfull : 4000 < M
      · have HE := hide (apd3 hsg hp (by omega))
        clear HO hp hM
        generalize cntF s = C at *
        generalize numS s 6 = N at *
        generalize numS s 4 = f at *
        have ht : (4000 : Int) < (M : Int) := by omega
        go_enter Tryz.func14, Tryz.ntmps14
        go_wp2_with fail
        refine (HPL.out _ _ HR.out).mono ?_; rintro e w1 ⟨A, cap, rfl, ho1, hb1⟩
        have HB1 := hide hb1; have HP1 := hide ho1; have hw1 := hb1.size; clear hb1 ho1
        rw [hlen] at HP1 ⊢
        have HAL := hide ((Below.refl w1.heap.size w1).alloc (Nat.le_refl _) (.cells #[.string s, .int .i64 (N : Int), .int .i64 (f : Int), .slice A (C + 1) cap] 50))
        have HBA := hide (HB1.out.trans (HAL.out.mono hw1))
        have HRA := hide (HR.out.below HBA.out)
        go_wp2_with fail
        go_region_held3 (fun w' => w'.cell? ⟨w1.heap.size, 1, none⟩ = some (.int .i64 (N : Int))) (go_keep) (first | (go_at_call 27; refine (c_size _ xs _ (by exact HRA.out)).mono ?_; rintro e w' ⟨rfl, rfl⟩))
        go_wp2
        go_ret2
        exact StR.mk HE.out (Below.drew HBA.out)
      · have htf : ¬ (4000 : Int) < (M : Int) := by omega
        obtain ⟨rs, c, hrk⟩ : ∃ rs c, restK s = (rs, c) := ⟨_, _, rfl⟩
        have hEerr := hide (fun hc => apd4 (xs := xs) hsg hp (by omega) hrk (c := c) hc)
        have hEok := hide (fun (hc : c = 0) => apd5 (xs := xs) hsg hp (by omega) (rs := rs) (by rw [hrk, hc]))
        have hrsm : ∀ x ∈ rs, Smp x := by have := restK_smp s; rw [hrk] at this; exact this
        have HSM := hide (show ∀ x ∈ rs ++ xs, Smp x from fun x hx => by rcases List.mem_append.1 hx with h | h; exact hrsm x h; exact HSS.out x h)
        have HAS := hide (show apdS s xs = headS (numS s 4) (numS s 6 + xs.length) ++ s.extract 10 (plc s (numS s 6 / numS s 4)) ++ bodyTo (rs ++ xs) (numS s 4) (nch (rs ++ xs).length (numS s 4)) by unfold apdS allL; rw [hrk])
        have hhz := size_headS (numS s 4) (numS s 6 + xs.length)
        have HRL := hide (fun (hc : c = 0) => restK_len HO (rs := rs) (by rw [hrk, hc]))
        have HCO := hide (fun v w h => iCount HO v w h)
        rw [hM] at HAS hhz
        have HM := hide hM; clear hM
        have e0 : ((numS s 6 : Nat) : Int) / ((numS s 4 : Nat) : Int) = ((numS s 6 / numS s 4 : Nat) : Int) := by simp
        have hKN : numS s 6 / numS s 4 ≤ numS s 6 := Nat.div_le_self _ _
        by_cases hrem : numS s 6 % numS s 4 = 0
        · have hCK : cntF s = numS s 6 / numS s 4 := nch_rem0 hf1 hrem
          have hrk0 : restK s = ([], 0) := by unfold restK; rw [if_pos hrem]
          rw [hrk0] at hrk
          injection hrk with h1 h2
          subst h1 h2
          have HE := hide (hEok.out rfl)
          have hbdP := HO.bd (numS s 6 / numS s 4) (by omega)
          have HC1 := hide (fun (w : World) A l cap h => HO.cell1 (j := numS s 6 / numS s 4) (by omega) (w := w) (A := A) (l := l) (cap := cap) h)
          have hzx : (s.extract 10 (plc s (numS s 6 / numS s 4))).size ≤ 1048576 := by rw [ByteArray.size_extract]; omega
          clear HO hp hEerr hEok HRL hrsm hrk0 hrem
          generalize hP : plc s (numS s 6 / numS s 4) = P at *
          clear hP
          generalize numS s 6 / numS s 4 = K at *
          generalize hC : cntF s = C at *
          obtain rfl : K = C := hCK.symm
          clear hC
          generalize numS s 6 = N at *
          generalize numS s 4 = f at *
          generalize hh1 : headS f M = h1 at *
          have HHD := hide hh1; clear hh1
          generalize hx1 : s.extract 10 P = x1 at *
          have hz1 : h1.size + x1.size ≤ 9223372036854775807 := by omega
          have a2 : (10 : Int) ≤ (P : Int) := by omega
          have a3 : (P : Int) ≤ (s.size : Int) := by omega
          have a1 : (K : Int) < (K : Int) + 1 := by omega
          generalize hrse : ([] : List Int) = rs at *
          have HRSE := hide hrse; clear hrse
          have hrl : rs.length ≤ N := by rw [← HRSE.out]; simp
          have hal2 : rs.length + xs.length ≤ 17592186044416 := by omega
          have hall : (rs ++ xs).length ≤ 4000 := by rw [List.length_append, ← HRSE.out]; simp; omega
          generalize hale : rs ++ xs = al at *
          have HALe := hide hale; clear hale
          have hbsz := size_bodyTo HSM.out hf2 (nch al.length f)
          have hnch : nch al.length f ≤ 4256 := by unfold nch; exact Nat.le_trans (Nat.div_le_self _ _) (by omega)
          generalize hbdy : bodyTo al f (nch al.length f) = body at *
          have HBDY := hide hbdy; clear hbdy
          have hz2 : (h1 ++ x1).size + body.size ≤ 9223372036854775807 := by rw [ByteArray.size_append]; omega
          go_enter Tryz.func14, Tryz.ntmps14
          go_wp2_with fail
          refine (HPL.out _ _ HR.out).mono ?_; rintro e w1 ⟨A, cap, rfl, ho1, hb1⟩
          have HB1 := hide hb1; have HP1 := hide ho1; have hw1 := hb1.size; clear hb1 ho1
          rw [hlen] at HP1 ⊢
          have HAL := hide ((Below.refl w1.heap.size w1).alloc (Nat.le_refl _) (.cells #[.string s, .int .i64 (N : Int), .int .i64 (f : Int), .slice A (K + 1) cap] 50))
          have HBA := hide (HB1.out.trans (HAL.out.mono hw1))
          have HRA := hide (HR.out.below HBA.out)
          go_wp2_with fail
          go_region_held3 (fun w' => w'.cell? ⟨w1.heap.size, 1, none⟩ = some (.int .i64 (N : Int))) (go_keep) (first | (go_at_call 27; refine (c_size _ xs _ (by exact HRA.out)).mono ?_; rintro e w' ⟨rfl, rfl⟩))
          go_wp2_with fail
          obtain ⟨wb, hwb, hrb, hbkb, hbb, hsb⟩ := one_new w1 50 #[.string s, .int .i64 (N : Int), .int .i64 (f : Int), .slice A (K + 1) cap]
          rw [← hwb]
          clear hwb
          refine (HCO.out _ _ (HP1.out.rd.below hbb)).mono ?_; rintro e wX ⟨rfl, hb3⟩
          have hbk := hbkb.below hb3 hbkb.lt
          have k0 := hbk.cell 0; have k1 := hbk.cell 1; have k2 := hbk.cell 2; have k3 := hbk.cell 3
          simp at k0 k1 k2 k3
          have hsx : w1.heap.size < wX.heap.size := hbk.lt
          have HBX := hide (HB1.out.trans ((hbb.trans (hb3.mono hbb.size)).mono hw1))
          have HOX : Sec (OwI 2 wX (w1.heap.size + 1) (.slice (some ⟨w1.heap.size + 1, 0, none⟩) 0 0) rs) := hide (by rw [← HRSE.out]; exact own_all hrb hb3)
          obtain ⟨b, off, rfl, hbw, ca, _⟩ := HC1.out _ _ _ _ ((HP1.out.rd.below hbb).below hb3)
          clear hrb hbkb hbb hsb hb3 hbk
          go_wp2_with fail
          have HBXd := hide (Below.drew HBX.out)
          have HOXd : Sec (OwI 2 wX.drew (w1.heap.size + 1) _ rs) := hide (show OwI _ _ _ _ _ from HOX.out)
          have hsX : w1.heap.size < wX.drew.heap.size := hsx
          go_region_held_law (fun w' => w'.cell? ⟨w1.heap.size, 1, none⟩ = some (.int .i64 (N : Int)) ∧ w'.cell? ⟨w1.heap.size, 2, none⟩ = some (.int .i64 (f : Int))) (first | go_keep | (refine ⟨(hk7 1).trans ?_, (hk7 2).trans ?_⟩ <;> assumption) | (refine ⟨(hk6 1).trans ?_, (hk6 2).trans ?_⟩ <;> assumption) | (refine ⟨(hk5 1).trans ?_, (hk5 2).trans ?_⟩ <;> assumption)) (first | (go_at_call 27; refine (c_size _ xs _ (HR.out.below (by first | exact HB7.out | exact HB5.out | exact HBXd.out))).mono ?_; rintro e w' ⟨rfl, rfl⟩) | (go_at_call 26; refine (c_storeHead M f _ (by omega) (by omega)).mono ?_; rw [HHD.out]; rintro e w6 ⟨rfl, hb6⟩; have HB6 := hide (bthen (a := w) (B := w.heap.size) (by first | exact HB7.out | exact HB5.out | exact HBXd.out) (by first | exact HB7.out.size | exact HB5.out.size | exact HBXd.out.size) hb6); have hk6 := (fun (i : Nat) => hb6.cell (p := ⟨w1.heap.size, i, none⟩) (by first | exact hs7 | exact hs5 | exact hsX)); have hs6 := (Nat.lt_of_lt_of_le (by first | exact hs7 | exact hs5 | exact hsX) hb6.size : w1.heap.size < w6.heap.size); (try have HOX6 : Sec (OwI 2 w6 (w1.heap.size + 1) _ rs) := hide (own_all HOXd.out hb6)); (try have HA6 : Sec (OwI 2 w6 (w1.heap.size + 1) _ al) := hide (own_all HA5.out hb6))) | (go_at_call 28; refine (c_framesText _ al f _ (by first | exact OwI.rd HA6.out | exact OwI.rd HA5.out) HSM.out hall ⟨hf1, hf2⟩).mono ?_; rw [HBDY.out]; rintro e w7 ⟨rfl, hb7⟩; have HB7 := hide (bthen (a := w) (B := w.heap.size) (by first | exact HB6.out | exact HB5.out) (by first | exact HB6.out.size | exact HB5.out.size) hb7); have hk7 := (fun (i : Nat) => hb7.cell (p := ⟨w1.heap.size, i, none⟩) (by first | exact hs6 | exact hs5)); have hs7 := (Nat.lt_of_lt_of_le (by first | exact hs6 | exact hs5) hb7.size : w1.heap.size < w7.heap.size)) | (refine step_i64 rfl _ _ rfl rfl (show OwI _ _ (w1.heap.size + 1) _ rs from (by first | exact HOX6.out | exact HOXd.out)) rfl (HR.out.below (by first | exact HB6.out | exact HBXd.out)) hal2 (by first | exact hs6 | exact hsX) ?_; intro v5 w5 ho5 hg5 hv5; rw [HALe.out] at ho5; have HB5 := hide (below_own (by first | exact HB6.out | exact HBXd.out) (show OwI _ _ (w1.heap.size + 1) _ rs from (by first | exact HOX6.out | exact HOXd.out)) hg5 (Nat.le_succ_of_le hw1) (by first | exact HB6.out.size | exact HBXd.out.size)); have hk5 := (fun (i : Nat) => (World.cell?_of_block (hg5.block w1.heap.size (by first | exact hs6 | exact hsX) (fun e => by have := ((show OwI _ _ (w1.heap.size + 1) _ rs from (by first | exact HOX6.out | exact HOXd.out)).lt _ e.symm).1; omega)) : w5.cell? ⟨w1.heap.size, i, none⟩ = _)); have HA5 := hide ho5; have hs5 := (Nat.lt_of_lt_of_le (by first | exact hs6 | exact hsX) hg5.size : w1.heap.size < w5.heap.size); clear ho5 hv5))
          all_goals go_wp2
          all_goals go_ret2
          all_goals exact StR.mk (by rw [HE.out, HAS.out]) (by first | exact HB7.out | exact HB6.out)
        · have hCK : cntF s = numS s 6 / numS s 4 + 1 := nch_rem1 hf1 hrem
          have hrk1 : frK s (numS s 6 / numS s 4) = (rs, c) := by rw [← hrk]; unfold restK; rw [if_neg hrem]
          have HLO := hide (fun v w h => iLoad HO (j := numS s 6 / numS s 4) (by omega) v w h)
          rw [hrk1] at HLO
          have hbdP := HO.bd (numS s 6 / numS s 4) (by omega)
          have HC1 := hide (fun (w : World) A l cap h => HO.cell1 (j := numS s 6 / numS s 4) (by omega) (w := w) (A := A) (l := l) (cap := cap) h)
          have hzx : (s.extract 10 (plc s (numS s 6 / numS s 4))).size ≤ 1048576 := by rw [ByteArray.size_extract]; omega
          have hrest : c = 0 → rs.length ≤ numS s 6 % numS s 4 := by
            intro h0
            have h1 := frK_len (s := s) (j := numS s 6 / numS s 4) (by rw [hrk1, h0])
            rw [hrk1] at h1
            simp only at h1
            rw [h1]
            unfold lenK
            have := Nat.div_add_mod (numS s 6) (numS s 4)
            rw [Nat.mul_comm] at this
            omega
          have hmod := Nat.mod_le (numS s 6) (numS s 4)
          clear HO hp hrsm hrk hrk1 hrem
          generalize hP : plc s (numS s 6 / numS s 4) = P at *
          clear hP
          generalize numS s 6 / numS s 4 = K at *
          generalize hC : cntF s = C at *
          obtain rfl : K + 1 = C := hCK.symm
          clear hC
          generalize numS s 6 % numS s 4 = rm at *
          generalize numS s 6 = N at *
          generalize numS s 4 = f at *
          generalize hh1 : headS f M = h1 at *
          have HHD := hide hh1; clear hh1
          generalize hx1 : s.extract 10 P = x1 at *
          have hz1 : h1.size + x1.size ≤ 9223372036854775807 := by omega
          have a2 : (10 : Int) ≤ (P : Int) := by omega
          have a3 : (P : Int) ≤ (s.size : Int) := by omega
          have a1 : (K : Int) < (K : Int) + 1 + 1 := by omega
          by_cases hc0 : c = 0
          · subst hc0
            have HE := hide (hEok.out rfl)
            have hrl := HRL.out rfl
            have hrr := hrest rfl
            have hxm : N + xs.length = M := HM.out
            have hal2 : rs.length + xs.length ≤ 17592186044416 := by omega
            have hall : (rs ++ xs).length ≤ 4000 := by rw [List.length_append]; omega
            clear hEerr hEok HRL hrest hxm
            generalize hale : rs ++ xs = al at *
            have HALe := hide hale; clear hale
            have hbsz := size_bodyTo HSM.out hf2 (nch al.length f)
            have hnch : nch al.length f ≤ 4256 := by unfold nch; exact Nat.le_trans (Nat.div_le_self _ _) (by omega)
            generalize hbdy : bodyTo al f (nch al.length f) = body at *
            have HBDY := hide hbdy; clear hbdy
            have hz2 : (h1 ++ x1).size + body.size ≤ 9223372036854775807 := by rw [ByteArray.size_append]; omega
            go_enter Tryz.func14, Tryz.ntmps14
            go_wp2_with fail
            refine (HPL.out _ _ HR.out).mono ?_; rintro e w1 ⟨A, cap, rfl, ho1, hb1⟩
            have HB1 := hide hb1; have HP1 := hide ho1; have hw1 := hb1.size; clear hb1 ho1
            rw [hlen] at HP1 ⊢
            have HAL := hide ((Below.refl w1.heap.size w1).alloc (Nat.le_refl _) (.cells #[.string s, .int .i64 (N : Int), .int .i64 (f : Int), .slice A (K + 1 + 1) cap] 50))
            have HBA := hide (HB1.out.trans (HAL.out.mono hw1))
            have HRA := hide (HR.out.below HBA.out)
            go_wp2_with fail
            go_region_held3 (fun w' => w'.cell? ⟨w1.heap.size, 1, none⟩ = some (.int .i64 (N : Int))) (go_keep) (first | (go_at_call 27; refine (c_size _ xs _ (by exact HRA.out)).mono ?_; rintro e w' ⟨rfl, rfl⟩))
            go_wp2_with fail
            obtain ⟨wb, hwb, hrb, hbkb, hbb, hsb⟩ := one_new w1 50 #[.string s, .int .i64 (N : Int), .int .i64 (f : Int), .slice A (K + 1 + 1) cap]
            rw [← hwb]
            clear hwb
            refine (HCO.out _ _ (HP1.out.rd.below hbb)).mono ?_; rintro e w3 ⟨rfl, hb3⟩
            have hbk := hbkb.below hb3 hbkb.lt
            have k0 := hbk.cell 0; have k1 := hbk.cell 1; have k2 := hbk.cell 2; have k3 := hbk.cell 3
            simp at k0 k1 k2 k3
            have hsx : w1.heap.size < w3.heap.size := hbk.lt
            have HB3 := hide (HB1.out.trans ((hbb.trans (hb3.mono hbb.size)).mono hw1))
            have HRP3 := hide ((HP1.out.rd.below hbb).below hb3)
            have HBK3 := hide hbk
            clear hrb hbkb hbb hsb hb3 hbk
            go_wp2_with fail
            refine (HLO.out _ _ HRP3.out).mono ?_; rintro e wX ⟨v4, rfl, ho4, hb4⟩
            have hbk := HBK3.out.below hb4 hsx
            clear k0 k1 k2 k3
            have k0 := hbk.cell 0; have k1 := hbk.cell 1; have k2 := hbk.cell 2; have k3 := hbk.cell 3
            simp at k0 k1 k2 k3
            have HBX := hide (bthen HB3.out (by omega) hb4)
            have HOX : Sec (OwI 2 wX (w1.heap.size + 1) v4 rs) := hide (OwI.more ho4 (by omega))
            obtain ⟨b, off, rfl, hbw, ca, _⟩ := HC1.out _ _ _ _ (HRP3.out.below hb4)
            have hsx : w1.heap.size < wX.heap.size := hbk.lt
            clear hb4 ho4 hbk
            go_wp2_with fail
            have HBXd := hide (Below.drew HBX.out)
            have HOXd : Sec (OwI 2 wX.drew (w1.heap.size + 1) _ rs) := hide (show OwI _ _ _ _ _ from HOX.out)
            have hsX : w1.heap.size < wX.drew.heap.size := hsx
            go_region_held_law (fun w' => w'.cell? ⟨w1.heap.size, 1, none⟩ = some (.int .i64 (N : Int)) ∧ w'.cell? ⟨w1.heap.size, 2, none⟩ = some (.int .i64 (f : Int))) (first | go_keep | (refine ⟨(hk7 1).trans ?_, (hk7 2).trans ?_⟩ <;> assumption) | (refine ⟨(hk6 1).trans ?_, (hk6 2).trans ?_⟩ <;> assumption) | (refine ⟨(hk5 1).trans ?_, (hk5 2).trans ?_⟩ <;> assumption)) (first | (go_at_call 27; refine (c_size _ xs _ (HR.out.below (by first | exact HB7.out | exact HB5.out | exact HBXd.out))).mono ?_; rintro e w' ⟨rfl, rfl⟩) | (go_at_call 26; refine (c_storeHead M f _ (by omega) (by omega)).mono ?_; rw [HHD.out]; rintro e w6 ⟨rfl, hb6⟩; have HB6 := hide (bthen (a := w) (B := w.heap.size) (by first | exact HB7.out | exact HB5.out | exact HBXd.out) (by first | exact HB7.out.size | exact HB5.out.size | exact HBXd.out.size) hb6); have hk6 := (fun (i : Nat) => hb6.cell (p := ⟨w1.heap.size, i, none⟩) (by first | exact hs7 | exact hs5 | exact hsX)); have hs6 := (Nat.lt_of_lt_of_le (by first | exact hs7 | exact hs5 | exact hsX) hb6.size : w1.heap.size < w6.heap.size); (try have HOX6 : Sec (OwI 2 w6 (w1.heap.size + 1) _ rs) := hide (own_all HOXd.out hb6)); (try have HA6 : Sec (OwI 2 w6 (w1.heap.size + 1) _ al) := hide (own_all HA5.out hb6))) | (go_at_call 28; refine (c_framesText _ al f _ (by first | exact OwI.rd HA6.out | exact OwI.rd HA5.out) HSM.out hall ⟨hf1, hf2⟩).mono ?_; rw [HBDY.out]; rintro e w7 ⟨rfl, hb7⟩; have HB7 := hide (bthen (a := w) (B := w.heap.size) (by first | exact HB6.out | exact HB5.out) (by first | exact HB6.out.size | exact HB5.out.size) hb7); have hk7 := (fun (i : Nat) => hb7.cell (p := ⟨w1.heap.size, i, none⟩) (by first | exact hs6 | exact hs5)); have hs7 := (Nat.lt_of_lt_of_le (by first | exact hs6 | exact hs5) hb7.size : w1.heap.size < w7.heap.size)) | (refine step_i64 rfl _ _ rfl rfl (show OwI _ _ (w1.heap.size + 1) _ rs from (by first | exact HOX6.out | exact HOXd.out)) rfl (HR.out.below (by first | exact HB6.out | exact HBXd.out)) hal2 (by first | exact hs6 | exact hsX) ?_; intro v5 w5 ho5 hg5 hv5; rw [HALe.out] at ho5; have HB5 := hide (below_own (by first | exact HB6.out | exact HBXd.out) (show OwI _ _ (w1.heap.size + 1) _ rs from (by first | exact HOX6.out | exact HOXd.out)) hg5 (Nat.le_succ_of_le hw1) (by first | exact HB6.out.size | exact HBXd.out.size)); have hk5 := (fun (i : Nat) => (World.cell?_of_block (hg5.block w1.heap.size (by first | exact hs6 | exact hsX) (fun e => by have := ((show OwI _ _ (w1.heap.size + 1) _ rs from (by first | exact HOX6.out | exact HOXd.out)).lt _ e.symm).1; omega)) : w5.cell? ⟨w1.heap.size, i, none⟩ = _)); have HA5 := hide ho5; have hs5 := (Nat.lt_of_lt_of_le (by first | exact hs6 | exact hsX) hg5.size : w1.heap.size < w5.heap.size); clear ho5 hv5))
            all_goals go_wp2
            all_goals go_ret2
            all_goals exact StR.mk (by rw [HE.out, HAS.out]) (by first | exact HB7.out | exact HB6.out)
          · have HE := hide (hEerr.out hc0)
            have ht : (c != 0) = true := by simpa using hc0
            clear hEerr hEok HRL hc0 hrest
            go_enter Tryz.func14, Tryz.ntmps14
            go_wp2_with fail
            refine (HPL.out _ _ HR.out).mono ?_; rintro e w1 ⟨A, cap, rfl, ho1, hb1⟩
            have HB1 := hide hb1; have HP1 := hide ho1; have hw1 := hb1.size; clear hb1 ho1
            rw [hlen] at HP1 ⊢
            have HAL := hide ((Below.refl w1.heap.size w1).alloc (Nat.le_refl _) (.cells #[.string s, .int .i64 (N : Int), .int .i64 (f : Int), .slice A (K + 1 + 1) cap] 50))
            have HBA := hide (HB1.out.trans (HAL.out.mono hw1))
            have HRA := hide (HR.out.below HBA.out)
            go_wp2_with fail
            go_region_held3 (fun w' => w'.cell? ⟨w1.heap.size, 1, none⟩ = some (.int .i64 (N : Int))) (go_keep) (first | (go_at_call 27; refine (c_size _ xs _ (by exact HRA.out)).mono ?_; rintro e w' ⟨rfl, rfl⟩))
            go_wp2_with fail
            obtain ⟨wb, hwb, hrb, hbkb, hbb, hsb⟩ := one_new w1 50 #[.string s, .int .i64 (N : Int), .int .i64 (f : Int), .slice A (K + 1 + 1) cap]
            rw [← hwb]
            clear hwb
            refine (HCO.out _ _ (HP1.out.rd.below hbb)).mono ?_; rintro e w3 ⟨rfl, hb3⟩
            have hbk := hbkb.below hb3 hbkb.lt
            have k0 := hbk.cell 0; have k1 := hbk.cell 1; have k2 := hbk.cell 2; have k3 := hbk.cell 3
            simp at k0 k1 k2 k3
            have hsx : w1.heap.size < w3.heap.size := hbk.lt
            have HB3 := hide (HB1.out.trans ((hbb.trans (hb3.mono hbb.size)).mono hw1))
            have HRP3 := hide ((HP1.out.rd.below hbb).below hb3)
            clear hrb hbkb hbb hsb hb3 hbk
            go_wp2_with fail
            refine (HLO.out _ _ HRP3.out).mono ?_; rintro e wX ⟨v4, rfl, ho4, hb4⟩
            have HBX := hide (bthen HB3.out (by omega) hb4)
            clear hb4 ho4
            go_wp2
            go_ret2
            exact StR.mk HE.out HBX.out
    · have HE := hide (apd2 hsg hp hc)
      have HPL := hide (fun v w h => openW_err hp hc v w (by omega) h hsg)
      have ht : (c != 0) = true := by simpa using hc
      clear hp hc
      go_enter Tryz.func14, Tryz.ntmps14
      go_wp2_with fail
      refine (HPL.out _ _ HR.out).mono ?_; rintro e w1 ⟨t, n, f, A, l, cap, rfl, hb1⟩
      have HB1 := hide hb1; have hsz1 := hb1.size; clear hb1
      go_wp2
      go_ret2
      exact StR.mk HE.out (HB1.out.alloc hsz1 _)
end Go.Proofs.YtpmflkoepnanoaaGreat
