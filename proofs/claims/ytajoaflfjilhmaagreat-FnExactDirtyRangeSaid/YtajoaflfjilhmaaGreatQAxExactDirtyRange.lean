/- Contract: copyPatch. -/
import Derived.Test.YtajoaflfjilhmaaGreatQAwExactDirtyRange
import Derived.Test.YtajoaflfjilhmaaGreatQAtExactDirtyRange
import Derived.Deep.RegionHeldLaw
import Derived.Deep.RegionHeld3
import Derived.Deep.RegionLaw
set_option linter.unusedVariables false
set_option linter.unusedSimpArgs false
namespace Go.Proofs.YtajoaflfjilhmaaGreat
open Go.RowKit
set_option maxHeartbeats 2000000 in
set_option maxRecDepth 20000 in
theorem c_copyPatch (x : GPatch) (cs : List Value) (w : World) (hs : x.small) (h : T.rds w x.fs cs) : Calls Tryz.prog 110 #[.agg cs.toArray] w fun e w' => ∃ v1 v2 v3 F, e = .returned (.agg #[.int .i64 x.fInputs, v1, v2, v3]) ∧ Nw w w' x.fs F [.int .i64 x.fInputs, v1, v2, v3] := by
  obtain ⟨v1, v2, v3, rfl, h1, h2, h3⟩ := GPatch.rd_open h
  clear h
  have R1 := hide h1; obtain ⟨va1, vc1, rfl, vl1, vm1, vx1⟩ := T.rd_openG h1
  have HX1 := hide vx1; clear vx1 h1
  have R2 := hide h2; obtain ⟨va2, vc2, rfl, vl2, vm2, vx2⟩ := T.rd_openG h2
  have HX2 := hide vx2; clear vx2 h2
  have h3i := T.rd_ints.1 h3; obtain ⟨va3, vc3, rfl, vl3, vm3, vx3⟩ := h3i.open_
  have R3 := hide h3i; have HX3 := hide vx3; clear vx3 h3 h3i
  have HB0 := hide (show Below w.heap.size w (w.alloc (.cells #[.int .i64 x.fInputs, (.slice va1 x.fTables.length vc1), (.slice va2 x.fNodes.length vc2), (.slice va3 x.fOutputs.length vc3)] 132)) from (Below.refl _ _).alloc (Nat.le_refl _) _)
  have HK0 := hide (Bk.born w 132 #[.int .i64 x.fInputs, (.slice va1 x.fTables.length vc1), (.slice va2 x.fNodes.length vc2), (.slice va3 x.fOutputs.length vc3)])
  have HS := hide hs; clear hs
  have HBa := hide (HB0.out.alloc (by simp) (.cells #[.int .i64 0, .slice none 0 0, .slice none 0 0, .slice none 0 0] 132))
  have HKa := hide (HK0.out.alloc (.cells #[.int .i64 0, .slice none 0 0, .slice none 0 0, .slice none 0 0] 132)); have HRa := hide (Bk.born1' w (.cells #[.int .i64 x.fInputs, (.slice va1 x.fTables.length vc1), (.slice va2 x.fNodes.length vc2), (.slice va3 x.fOutputs.length vc3)] 132) 132 #[.int .i64 0, .slice none 0 0, .slice none 0 0, .slice none 0 0])
  clear HB0 HK0
  go_enter Tryz.func110, Tryz.ntmps110
  go_wp2_with fail
  rename_i Q1 K1 hK1
  have REST : ∀ (g : Nat) (tA : Option Addr) (lA cA : Nat) (tB : Option Addr) (lB cB : Nat) (FR : List Nat) (u6 u7 u8 u9 u10 u11 u12 u13 u14 : Value) (W : World), Bk W w.heap.size 132 #[.int .i64 x.fInputs, (.slice va1 x.fTables.length vc1), (.slice va2 x.fNodes.length vc2), (.slice va3 x.fOutputs.length vc3)] → Bk W (w.heap.size + 1) 132 #[.int .i64 0, .slice none 0 0, .slice none 0 0, .slice none 0 0] → Bk W g 132 #[.int .i64 x.fInputs, .slice tA lA cA, .slice none 0 0, .slice tB lB cB] → T.ows W [T.sl 26 1 (x.fTables.map (T.ints 2)), T.ints 2 x.fOutputs] FR [.slice tA lA cA, .slice tB lB cB] → FR.Nodup → (∀ b ∈ FR, w.heap.size + 2 ≤ b) → g ∉ FR → w.heap.size + 2 ≤ g → Below w.heap.size w W → K1 { tmps := #[.agg #[.int .i64 x.fInputs, (.slice va1 x.fTables.length vc1), (.slice va2 x.fNodes.length vc2), (.slice va3 x.fOutputs.length vc3)], .pointer (some ⟨w.heap.size, 0, none⟩), .pointer (some ⟨w.heap.size + 1, 0, none⟩), .pointer (some ⟨g, 0, none⟩), undef, undef, u6, u7, u8, u9, u10, u11, u12, u13, u14, undef, undef, undef, undef, undef, undef, undef, undef, undef, undef, undef, undef, undef, undef, undef, undef], defers := [] } W := by
    intro g tA lA cA tB lB cB FR u6 u7 u8 u9 u10 u11 u12 u13 u14 W bk1 bk2 bk3 ow nd lo gf gl hbw
    refine hK1 _ _ ?_
    clear hK1 K1 HBa HKa HRa
    have HP := hide bk1; have HR := hide bk2; have HO := hide bk3; have HOW := hide ow; have HND := hide nd; have HLO := hide lo; have HGF := hide gf; have HBW := hide hbw
    have kp := bk1.cell; clear bk1 bk2 bk3 ow nd lo gf hbw
    have ng1 : w.heap.size ≠ g := by omega
    have ng2 : w.heap.size + 1 ≠ g := by omega
    go_wp2
    go_loopw [18] (fun i wr => ∃ (k : Nat) (v : Value) (F : List Nat), k ≤ x.fNodes.length ∧ i = .int .i64 (k : Int) ∧ Grow (w.heap.size + 2) wr 199 4 ((x.fNodes.take k).map GNode.t) F v [T.sl 26 1 (x.fTables.map (T.ints 2)), T.ints 2 x.fOutputs] FR [.slice tA lA cA, .slice tB lB cB] ∧ g ∉ F ∧ Bk wr w.heap.size 132 #[.int .i64 x.fInputs, (.slice va1 x.fTables.length vc1), (.slice va2 x.fNodes.length vc2), (.slice va3 x.fOutputs.length vc3)] ∧ Bk wr (w.heap.size + 1) 132 #[.int .i64 0, .slice none 0 0, .slice none 0 0, .slice none 0 0] ∧ Bk wr g 132 #[.int .i64 x.fInputs, .slice tA lA cA, v, .slice tB lB cB] ∧ Below w.heap.size w wr) (fun i _ => x.fNodes.length - (intOf i).toNat)
    case atStart => exact ⟨0, .slice none 0 0, [], Nat.zero_le _, rfl, by simpa using Grow.start HOW.out HND.out HLO.out 199 4, by simp, HP.out, HR.out, HO.out, HBW.out⟩
    case round =>
      obtain ⟨k, v, F, hk, rfl, hG, hgF, b1, b2, b3, hb⟩ := hrel
      obtain ⟨tN, lN, cN, rfl⟩ := hG.form
      have HG := hide hG; have HF := hide hgF; have HP1 := hide b1; have HR1 := hide b2; have HO1 := hide b3; have HB := hide hb; clear hG hgF b1 b2 b3 hb
      have hsz : w.heap.size + 2 ≤ wr.heap.size := by have := HR1.out.lt; omega
      have hgr : g < wr.heap.size := HO1.out.lt
      by_cases hlt : k < x.fNodes.length
      rotate_left
      · obtain rfl : k = x.fNodes.length := by omega
        have ko := HO1.out.cell; have fo := HO1.out.free; have kr := HR1.out.cell; have fr := HR1.out.free
        have hr1 : w.heap.size + 1 < wr.heap.size := by omega
        have nn1 : ¬ g = w.heap.size + 1 := by omega
        go_wp2
        obtain ⟨F1, F3, o1, o3, nd, lo, gn⟩ := HG.out.split
        have hr2 := gn (w.heap.size + 1) (fun hm => by have := HG.out.own.lo _ hm; omega) (fun hm => by have := HG.out.lo _ hm; omega)
        have o2 := HG.out.own.ow; rw [List.take_length] at o2
        have hO := GPatch.ow_mk (x := x) o1 o2 o3
        refine bodyPost_ret (v := .agg #[.int .i64 x.fInputs, .slice tA lA cA, (.slice tN lN cN), .slice tB lB cB]) (by simp [results, Tryz.results110, go_sem, ko, fo, kr, fr]) rfl ?_
        exact ⟨_, _, _, _, rfl, T.ows_far (T.ows_far (T.ows_far (T.ows_far hO hr2 _ _) hr2 _ _) hr2 _ _) hr2 _ _, nd, fun b hb => by have := lo b hb; omega, (((HB.out.setCell (by simp) _).setCell (by simp) _).setCell (by simp) _).setCell (by simp) _⟩
      have hsy := HS.out.2.1.2 _ (List.getElem_mem hlt)
      have hgk := List.getElem?_eq_getElem hlt
      obtain ⟨b, off, cs1, hA, hb1, hcs, hcell⟩ := HX2.out k x.fNodes[k] hgk
      subst hA
      generalize x.fNodes[k] = y at *
      have HY := hide hgk; have HSY := hide hsy; clear hgk hsy
      obtain ⟨u3, rfl, hRY3⟩ := GNode.rd_open (show T.rds _ _ _ by simpa only [GNode.t, T.rd] using hcs)
      have d0 := (HB.out.cell hb1).trans (hcell 0 (.int .i64 y.fKind) rfl)
      have d1 := (HB.out.cell hb1).trans (hcell 1 (.int .i64 y.fA) rfl)
      have d2 := (HB.out.cell hb1).trans (hcell 2 (.int .i64 y.fB) rfl)
      have d3 := (HB.out.cell hb1).trans (hcell 3 (u3) rfl)
      rw [show off + (k * 4 + 0) = off + k * 4 by omega] at d0
      rw [show off + (k * 4 + 1) = off + k * 4 + 1 by omega] at d1
      rw [show off + (k * 4 + 2) = off + k * 4 + 2 by omega] at d2
      rw [show off + (k * 4 + 3) = off + k * 4 + 3 by omega] at d3
      have RY3 := hide (T.rd_below hRY3 HB.out); clear hRY3
      clear hcs hcell
      obtain ⟨ua3, ul3, uc3, rfl⟩ := T.rd_slice RY3.out
      have hq1 : b < wr.heap.size := Nat.lt_of_lt_of_le hb1 HB.out.size
      have HXA := hide (show Below wr.heap.size wr (wr.alloc (.cells #[.int .i64 y.fKind, .int .i64 y.fA, .int .i64 y.fB, .slice ua3 ul3 uc3] 199)) from (Below.refl _ _).alloc (Nat.le_refl _) _)
      have HXB := hide (Bk.born wr 199 #[.int .i64 y.fKind, .int .i64 y.fA, .int .i64 y.fB, .slice ua3 ul3 uc3])
      go_wp2
      generalize wr.alloc (.cells #[.int .i64 y.fKind, .int .i64 y.fA, .int .i64 y.fB, .slice ua3 ul3 uc3] 199) = W2 at *
      have ko := (HO1.out.below HXA.out HO1.out.lt).cell; have kx := HXB.out.cell
      refine wp_region_E (fun w' => (∀ i, w'.cell? ⟨g, i, none⟩ = #[.int .i64 x.fInputs, .slice tA lA cA, (.slice tN lN cN), .slice tB lB cB][i]?) ∧ (∀ i, w'.cell? ⟨wr.heap.size, i, none⟩ = #[.int .i64 y.fKind, .int .i64 y.fA, .int .i64 y.fB, .slice ua3 ul3 uc3][i]?)) 7 (by kernel_rfl) ?_ (fun hS0 => ?_)
      · exact ⟨ko, kx⟩
      refine wpAnyE_take (i := 0) (oi := _) (v := ?v1) (by kernel_rfl) rfl (by kernel_rfl) (by kernel_rfl) (by kernel_rfl) (fun _ _ _ h => h) hS0 (by rfl) ?hy1 ?rest1
      case hy1 => (intro w hSw; (try dsimp only at hSw); first | (go_simp; done) | (go_simp; with_reducible rfl))
      try simp only [Act.put, List.setIfInBounds_toArray, List.set_cons_zero, List.set_cons_succ]
      refine wpAnyE_take (i := 1) (oi := _) (v := ?v2) (by kernel_rfl) rfl (by kernel_rfl) (by kernel_rfl) (by kernel_rfl) (fun _ _ _ h => h) hS0 (by rfl) ?hy2 ?rest2
      case hy2 => (intro w hSw; (try dsimp only at hSw); first | (go_simp; done) | (go_simp; with_reducible rfl))
      try simp only [Act.put, List.setIfInBounds_toArray, List.set_cons_zero, List.set_cons_succ]
      refine wpAnyE_take (i := 2) (oi := _) (v := ?v3) (by kernel_rfl) rfl (by kernel_rfl) (by kernel_rfl) (by kernel_rfl) (fun _ _ _ h => h) hS0 (by rfl) ?hy3 ?rest3
      case hy3 => (intro w hSw; (try dsimp only at hSw); first | (go_simp; done) | (go_simp; with_reducible rfl))
      try simp only [Act.put, List.setIfInBounds_toArray, List.set_cons_zero, List.set_cons_succ]
      refine wpAnyE_one (i := 3) (o := _) (by kernel_rfl) rfl (fun K hK => ?_)
      go_simp
      go_wp2_with (go_at_call 186; refine (c_copyNode y _ _ HSY.out (GNode.rd_mk (T.rd_below RY3.out HXA.out.drew))).mono ?_; rintro e wC ⟨u, Fx, rfl, hN⟩; obtain ⟨u3, G3, e1, e2, hu3⟩ := GNode.ow_open hN.ows; obtain ⟨tU, lU, cU, rfl⟩ := T.ow_slice (show T.ow _ _ _ [u] by simpa using (by injection e1 with _ e1; injection e1 with _ e1; injection e1 with _ e1; injection e1 with e1 _; subst e1; exact hu3)); clear e1 e2 hu3; have HN := hide hN; clear hN)
      have hbC := undrew HN.out.below; have HBC := hide hbC; have HGC := hide ((HG.out.all HXA.out).all hbC); have HOC := hide ((HO1.out.below HXA.out HO1.out.lt).below hbC (HO1.out.below HXA.out HO1.out.lt).lt); have HXC := hide (HXB.out.below hbC HXB.out.lt)
      have HPC := hide ((HP1.out.below HXA.out HP1.out.lt).below hbC (HP1.out.below HXA.out HP1.out.lt).lt); have HRC := hide ((HR1.out.below HXA.out HR1.out.lt).below hbC (HR1.out.below HXA.out HR1.out.lt).lt); have HBCw := hide (bthen (bthen HB.out HB.out.size HXA.out) (bthen HB.out HB.out.size HXA.out).size hbC); clear hbC
      refine hK.out _ _ ?_ (fun hS1 => ?_)
      · exact ⟨HOC.out.cell, HXC.out.cell⟩
      clear hK K hS0
      have hsC : wr.heap.size ≤ wC.heap.size := Nat.le_trans HXA.out.size HBC.out.size
      have HZA := hide (show Below wC.heap.size wC (wC.alloc (.cells #[.int .i64 y.fKind, .int .i64 y.fA, .int .i64 y.fB, .slice tU lU cU] 199)) from (Below.refl _ _).alloc (Nat.le_refl _) _)
      refine wpAnyE_one (i := 4) (o := _) (by kernel_rfl) rfl (fun K hK => ?_)
      go_simp
      refine hK.out _ _ ?_ (fun hS2 => ?_)
      · exact ⟨(HOC.out.alloc _).cell, (HXC.out.alloc _).cell⟩
      clear hK K hS1
      refine wpAnyE_one (i := 5) (o := _) (by kernel_rfl) rfl (fun K hK => ?_)
      refine step1_T rfl _ _ _ rfl (w.heap.size + 2) _ _ 4 48 Tryz.underlying130 info_NodeS rfl (by omega) rfl (HGC.out.all HZA.out).own rfl (Bk.born _ _ _) (x := y.t) (T.ow_st (T.ows_all HN.out.ows HZA.out)) HN.out.nodup (fun b hb => by have := HN.out.lo b hb; have h2 := HXA.out.size; exact Nat.le_trans hsz (Nat.le_trans h2 this)) (fun b hb hb2 => by have h1 := HG.out.lt b hb; have h2 := HN.out.lo b hb2; have h3 : wr.heap.size ≤ b := Nat.le_trans HXA.out.size h2; omega) rfl (by rw [List.length_map, List.length_take]; have := HS.out.2.1.1; omega) (by rw [List.length_map, List.length_take]; have := HS.out.2.1.1; unfold maxLen; omega) (Nat.le_trans hsz (Nat.le_trans hsC HZA.out.size)) ?_
      intro v8 w8 F8 ho8 hg8 hv8
      obtain ⟨t8, l8, c8, rfl⟩ := T.ow_slice ho8.ow
      have HG8 := hide ((HGC.out.all HZA.out).app ho8 hg8 hv8 (fun b hb hb2 => by have h1 := HG.out.ltR b hb2; have h2 := HN.out.lo b hb; have h3 : wr.heap.size ≤ b := Nat.le_trans HXA.out.size h2; omega))
      have gC : g ∉ F := HF.out
      have HO8 := hide ((HOC.out.alloc (.cells #[.int .i64 y.fKind, .int .i64 y.fA, .int .i64 y.fB, .slice tU lU cU] 199)).far1 hg8 gC (HGC.out.all HZA.out).own)
      have HX8 := hide ((HXC.out.alloc (.cells #[.int .i64 y.fKind, .int .i64 y.fA, .int .i64 y.fB, .slice tU lU cU] 199)).far1 hg8 (fun hm => by have := HG.out.lt _ hm; omega) (HGC.out.all HZA.out).own)
      have HP8 := hide ((HPC.out.alloc (.cells #[.int .i64 y.fKind, .int .i64 y.fA, .int .i64 y.fB, .slice tU lU cU] 199)).far1 hg8 (fun hm => by have := HG.out.own.lo _ hm; omega) (HGC.out.all HZA.out).own)
      have HR8 := hide ((HRC.out.alloc (.cells #[.int .i64 y.fKind, .int .i64 y.fA, .int .i64 y.fB, .slice tU lU cU] 199)).far1 hg8 (fun hm => by have := HG.out.own.lo _ hm; omega) (HGC.out.all HZA.out).own)
      have HB8 := hide (((HGC.out.all HZA.out).own.more (show w.heap.size ≤ w.heap.size + 2 by omega)).below (HBCw.out.alloc HBCw.out.size _) (Nat.le_trans (Nat.le_trans (show w.heap.size ≤ wr.heap.size by omega) hsC) HZA.out.size) hg8)
      have HF8 := hide (Grow.out hv8 gC (fun hm => by have h2 := HN.out.lo _ hm; have h3 : wr.heap.size ≤ g := Nat.le_trans HXA.out.size h2; omega) (Nat.lt_of_lt_of_le hgr (Nat.le_trans hsC HZA.out.size)))
      clear ho8 hg8 hv8
      refine hK.out _ _ ?_ (fun hS3 => ?_)
      · exact ⟨HO8.out.cell, HX8.out.cell⟩
      clear hK K hS2
      refine wpAnyE_take (i := 6) (oi := _) (v := ?v4) (by kernel_rfl) rfl (by kernel_rfl) (by kernel_rfl) (by kernel_rfl) (fun _ _ _ h => h) hS3 (by rfl) ?hy4 ?rest4
      case hy4 => (intro w hSw; (try dsimp only at hSw); first | (go_simp; done) | (go_simp; with_reducible rfl))
      try simp only [Act.put, List.setIfInBounds_toArray, List.set_cons_zero, List.set_cons_succ]
      refine wpAnyE_tail (o := _) (by kernel_rfl) rfl (by kernel_rfl) ?_
      have fo8 := HO8.out.free; have co8 := HO8.out.cell; have lo8 := HO8.out.lt
      go_wp2
      go_roundw
      case rel => exact ⟨k + 1, .slice t8 l8 c8, F8, by omega, by go_num, (by rw [take_snoc_of HY.out, List.map_append]; exact HG8.out.far HF8.out HGF.out _ _), HF8.out, HP8.out.far ng1 _, HR8.out.far ng2 _, (by have := HO8.out.set_ 2 (.slice t8 l8 c8); simpa using this), HB8.out.setCell (by simp; omega) _⟩
      case measure => simp [intOf]; omega
  have HE2 := hide (show ((w.alloc (.cells #[.int .i64 x.fInputs, (.slice va1 x.fTables.length vc1), (.slice va2 x.fNodes.length vc2), (.slice va3 x.fOutputs.length vc3)] 132)).alloc (.cells #[.int .i64 0, .slice none 0 0, .slice none 0 0, .slice none 0 0] 132)).heap.size = w.heap.size + 1 + 1 by simp)
  go_region_held3 (fun w' => ∀ i, w'.cell? ⟨w.heap.size, i, none⟩ = #[.int .i64 x.fInputs, (.slice va1 x.fTables.length vc1), (.slice va2 x.fNodes.length vc2), (.slice va3 x.fOutputs.length vc3)][i]?) (first | with_reducible exact ((((KB.out.far (by first | with_reducible exact Nat.ne_of_lt KA.out.lt | (simp; done) | (simp; omega)) _).far (by first | with_reducible exact Nat.ne_of_lt KA.out.lt | (simp; done) | (simp; omega)) _).far (by first | with_reducible exact Nat.ne_of_lt KA.out.lt | (simp; done) | (simp; omega)) _).far (by first | with_reducible exact Nat.ne_of_lt KA.out.lt | (simp; done) | (simp; omega)) _).cell | with_reducible exact (KB.out.alloc _).cell | with_reducible exact KB.out.cell | with_reducible exact (KA.out.alloc _).cell | with_reducible exact KA.out.cell | exact HKa.out.cell | exact (HKa.out.alloc _).cell) (first | (go_at_call 109; refine (c_clones _ x.fTables _ HS.out.1 (T.rd_below R1.out (by first | with_reducible exact HBa.out | with_reducible exact HBa.out.drew | with_reducible exact below_drewN HBa.out _ | with_reducible exact HBa.out.alloc (by first | (simp; done) | (simp; omega) | omega) _ | with_reducible exact (HBa.out.alloc (by first | (simp; done) | (simp; omega) | omega) _).drew | with_reducible exact (HBa.out.drew).alloc (by first | (simp; done) | (simp; omega) | omega) _ | with_reducible exact below_drewN (HBa.out.alloc (by first | (simp; done) | (simp; omega) | omega) _) _ | with_reducible exact (below_drewN HBa.out _).alloc (by first | (simp; done) | (simp; omega) | omega) _))).mono ?_; rintro e wA ⟨vA, FA, rfl, hoA, hbA⟩; obtain ⟨tA, lA, cA, rfl⟩ := T.ow_slice hoA.ow; have OA := hide hoA; have CA := hide (show Below ((w.alloc (.cells #[.int .i64 x.fInputs, (.slice va1 x.fTables.length vc1), (.slice va2 x.fNodes.length vc2), (.slice va3 x.fOutputs.length vc3)] 132)).alloc (.cells #[.int .i64 0, .slice none 0 0, .slice none 0 0, .slice none 0 0] 132)).heap.size ((w.alloc (.cells #[.int .i64 x.fInputs, (.slice va1 x.fTables.length vc1), (.slice va2 x.fNodes.length vc2), (.slice va3 x.fOutputs.length vc3)] 132)).alloc (.cells #[.int .i64 0, .slice none 0 0, .slice none 0 0, .slice none 0 0] 132)) wA from (by first | with_reducible exact hbA | with_reducible exact undrew hbA | with_reducible exact undrewN hbA | with_reducible exact below_of_alloc hbA | with_reducible exact undrew (below_of_alloc hbA) | with_reducible exact below_of_alloc (undrew hbA) | with_reducible exact undrewN (below_of_alloc hbA) | with_reducible exact below_of_alloc (undrewN hbA))); have KA := hide (HKa.out.below CA.out HKa.out.lt); have RA := hide (HRa.out.below CA.out HRa.out.lt); (try ((first | have gA := Bk.below (Bk.born _ _ _) hbA (by simp) | have gA := Bk.below (Bk.drew (Bk.born _ _ _)) hbA (by simp)); rw [HE2.out] at gA; have GA := hide gA; clear gA; have ga := GA.out.cell; have gaf := GA.out.free)); clear hoA hbA) | (go_at_call 80; refine (c_clone _ x.fOutputs _ (Rd.below R3.out (bthen HBa.out HBa.out.size (by first | with_reducible exact CA.out | with_reducible exact CA.out.drew | with_reducible exact below_drewN CA.out _ | with_reducible exact CA.out.alloc (CA.out.size) _ | with_reducible exact (CA.out.drew).alloc (CA.out.size) _ | with_reducible exact (CA.out.alloc (CA.out.size) _).drew | with_reducible exact below_drewN (CA.out.alloc (CA.out.size) _) _))) HS.out.2.2).mono ?_; rintro e wB ⟨vB, rfl, hoB, hbB⟩; obtain ⟨tB, cB, rfl, -, -, -⟩ := hoB.rd.open_; have OB := hide (Nv.ints hoB hbB); have CB := hide (show Below wA.heap.size wA wB from (by first | with_reducible exact hbB | with_reducible exact undrew hbB | with_reducible exact undrewN hbB | with_reducible exact below_of_alloc hbB | with_reducible exact undrew (below_of_alloc hbB) | with_reducible exact below_of_alloc (undrew hbB) | with_reducible exact below_of_alloc (undrewN hbB))); have KB := hide (KA.out.below CB.out KA.out.lt); have RB := hide (RA.out.below CB.out RA.out.lt); (try (have GB := hide (Bk.below (Bk.born _ _ _) hbB (by simp)); have gb := GB.out.cell; have gbf := GB.out.free)); (try (have GC := hide (GA.out.below CB.out GA.out.lt); have gc := GC.out.cell; have gcf := GC.out.free)); clear hoB hbB))
  · -- the alloc comes last
    have ow : T.ows wB [T.sl 26 1 (x.fTables.map (T.ints 2)), T.ints 2 x.fOutputs] (FA ++ (_ ++ [])) [.slice tA lA cA, .slice tB x.fOutputs.length cB] := T.c_ol (T.ow_all OA.out.ow CB.out) (T.c_ol OB.out.ow T.c_oe)
    have s1 := CA.out.size; have s2 := CB.out.size; rw [HE2.out] at s1
    have la : ∀ b ∈ FA, w.heap.size + 2 ≤ b := fun b hb => by have h1 := OA.out.lo b hb; (try simp at h1); omega
    have ta := OA.out.lt; have lb := OB.out.lo; have tb := OB.out.lt
    have hwb : Below w.heap.size w wB := bthen (bthen HBa.out HBa.out.size CA.out) (bthen HBa.out HBa.out.size CA.out).size CB.out
    have nd : (FA ++ (_ ++ [])).Nodup := nodup_app OA.out.nodup (by rw [List.append_nil]; exact OB.out.nodup) (fun b hb hm => by rw [List.append_nil] at hm; have h1 := ta b hb; have h2 := lb b hm; (try simp at h2); omega)
    have lo : ∀ b ∈ FA ++ (_ ++ []), w.heap.size + 2 ≤ b := fun b hb => by rw [List.append_nil] at hb; rcases List.mem_append.1 hb with h | h; (· exact la b h); (· have h2 := lb b h; (try simp at h2); omega)
    exact REST wB.heap.size _ _ _ _ _ _ _ _ _ _ _ _ _ _ _ _ _ (KB.out.alloc _) (RB.out.alloc _) (Bk.born _ _ _) (T.ows_all ow ((Below.refl _ _).alloc (Nat.le_refl _) _)) nd lo (fun hm => by rw [List.append_nil] at hm; rcases List.mem_append.1 hm with h | h; (· have h1 := ta _ h; have h2 := OA.out.lo _ h; (try simp at h2); omega); (· have h1 := tb _ h; have h2 := lb _ h; (try simp at h2); omega)) (by omega) (hwb.alloc hwb.size _)
  ·
    have ow : T.ows wB [T.sl 26 1 (x.fTables.map (T.ints 2)), T.ints 2 x.fOutputs] (FA ++ (_ ++ [])) [.slice tA lA cA, .slice tB x.fOutputs.length cB] := T.c_ol (T.ow_all OA.out.ow CB.out) (T.c_ol OB.out.ow T.c_oe)
    have s1 := CA.out.size; have s2 := CB.out.size; rw [HE2.out] at s1
    have la : ∀ b ∈ FA, w.heap.size + 2 ≤ b := fun b hb => by have h1 := OA.out.lo b hb; (try simp at h1); omega
    have ta := OA.out.lt; have lb := OB.out.lo; have tb := OB.out.lt
    have hwb : Below w.heap.size w wB := bthen (bthen HBa.out HBa.out.size CA.out) (bthen HBa.out HBa.out.size CA.out).size CB.out
    have nd : (FA ++ (_ ++ [])).Nodup := nodup_app OA.out.nodup (by rw [List.append_nil]; exact OB.out.nodup) (fun b hb hm => by rw [List.append_nil] at hm; have h1 := ta b hb; have h2 := lb b hm; (try simp at h2); omega)
    have lo : ∀ b ∈ FA ++ (_ ++ []), w.heap.size + 2 ≤ b := fun b hb => by rw [List.append_nil] at hb; rcases List.mem_append.1 hb with h | h; (· exact la b h); (· have h2 := lb b h; (try simp at h2); omega)
    have g1 : w.heap.size ≠ wA.heap.size := by omega
    have g2 : w.heap.size + 1 ≠ wA.heap.size := by omega
    have gf : wA.heap.size ∉ FA ++ (_ ++ []) := (fun hm => by rw [List.append_nil] at hm; rcases List.mem_append.1 hm with h | h; (· have h1 := ta _ h; have h2 := OA.out.lo _ h; (try simp at h2); omega); (· have h1 := tb _ h; have h2 := lb _ h; (try simp at h2); omega))
    have gl : w.heap.size ≤ wA.heap.size := by omega
    exact REST (wA.heap.size) _ _ _ _ _ _ _ _ _ _ _ _ _ _ _ _ _ ((((KB.out.far g1 _).far g1 _).far g1 _).far g1 _) ((((RB.out.far g2 _).far g2 _).far g2 _).far g2 _) ((((GB.out.set_ _ _).set_ _ _).set_ _ _).set_ _ _) (T.ows_far (T.ows_far (T.ows_far (T.ows_far ow gf _ _) gf _ _) gf _ _) gf _ _) nd lo gf (by omega) ((((hwb.setCell gl _).setCell gl _).setCell gl _).setCell gl _)
  ·
    have ow : T.ows wB [T.sl 26 1 (x.fTables.map (T.ints 2)), T.ints 2 x.fOutputs] (FA ++ (_ ++ [])) [.slice tA lA cA, .slice tB x.fOutputs.length cB] := T.c_ol (T.ow_all OA.out.ow CB.out) (T.c_ol OB.out.ow T.c_oe)
    have s1 := CA.out.size; have s2 := CB.out.size; rw [HE2.out] at s1
    have la : ∀ b ∈ FA, w.heap.size + 2 ≤ b := fun b hb => by have h1 := OA.out.lo b hb; (try simp at h1); omega
    have ta := OA.out.lt; have lb := OB.out.lo; have tb := OB.out.lt
    have hwb : Below w.heap.size w wB := bthen (bthen HBa.out HBa.out.size CA.out) (bthen HBa.out HBa.out.size CA.out).size CB.out
    have nd : (FA ++ (_ ++ [])).Nodup := nodup_app OA.out.nodup (by rw [List.append_nil]; exact OB.out.nodup) (fun b hb hm => by rw [List.append_nil] at hm; have h1 := ta b hb; have h2 := lb b hm; (try simp at h2); omega)
    have lo : ∀ b ∈ FA ++ (_ ++ []), w.heap.size + 2 ≤ b := fun b hb => by rw [List.append_nil] at hb; rcases List.mem_append.1 hb with h | h; (· exact la b h); (· have h2 := lb b h; (try simp at h2); omega)
    have s3 := GA.out.lt
    have g1 : w.heap.size ≠ (w.heap.size + 1 + 1) := by omega
    have g2 : w.heap.size + 1 ≠ (w.heap.size + 1 + 1) := by omega
    have gf : (w.heap.size + 1 + 1) ∉ FA ++ (_ ++ []) := (fun hm => by rw [List.append_nil] at hm; rcases List.mem_append.1 hm with h | h; (· have h1 := ta _ h; have h2 := OA.out.lo _ h; (try simp at h2); omega); (· have h1 := tb _ h; have h2 := lb _ h; (try simp at h2); omega))
    have gl : w.heap.size ≤ (w.heap.size + 1 + 1) := by omega
    exact REST ((w.heap.size + 1 + 1)) _ _ _ _ _ _ _ _ _ _ _ _ _ _ _ _ _ ((((KB.out.far g1 _).far g1 _).far g1 _).far g1 _) ((((RB.out.far g2 _).far g2 _).far g2 _).far g2 _) ((((GC.out.set_ _ _).set_ _ _).set_ _ _).set_ _ _) (T.ows_far (T.ows_far (T.ows_far (T.ows_far ow gf _ _) gf _ _) gf _ _) gf _ _) nd lo gf (by omega) ((((hwb.setCell gl _).setCell gl _).setCell gl _).setCell gl _)
end Go.Proofs.YtajoaflfjilhmaaGreat
