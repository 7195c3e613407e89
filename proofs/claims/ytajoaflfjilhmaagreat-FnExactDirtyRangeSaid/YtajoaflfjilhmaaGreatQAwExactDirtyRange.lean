/- The program's edited clips. Contracts: copies of the program. -/
import Derived.Test.YtajoaflfjilhmaaGreatQAvExactDirtyRange
import Derived.Test.YtajoaflfjilhmaaGreatQAcExactDirtyRange
import Derived.Deep.RegionHeld3
import Derived.Test.YtajoaflfjilhmaaGreatQAsExactDirtyRange
import Derived.Test.YtajoaflfjilhmaaGreatQAuExactDirtyRange
import Derived.Test.YtajoaflfjilhmaaGreatQAdExactDirtyRange
set_option linter.unusedVariables false
set_option linter.unusedSimpArgs false
section
namespace Go.Proofs.YtajoaflfjilhmaaGreat
open Go.RowKit
theorem rds_cut {w : World} {l : List GClip} {es : List Value} {k : Nat} (h : T.rds w (l.map GClip.t) es) (hk : k ≤ l.length) : T.rds w ((l.take k).map GClip.t) (es.take (k * 5)) ∧ T.rds w ((l.drop k).map GClip.t) (es.drop (k * 5)) := by
  have e : l.map GClip.t = (l.take k).map GClip.t ++ (l.drop k).map GClip.t := by rw [← List.map_append, List.take_append_drop]
  rw [e] at h
  obtain ⟨c1, c2, rfl, h1, h2⟩ := (T.rds_app _ _ _).1 h
  have hl : c1.length = k * 5 := by
    rw [T.rds_len _ _ h1, T.wides_mul (sz := 5) _ (fun x hx => by obtain ⟨y, _, rfl⟩ := List.mem_map.1 hx; exact GClip.wide_t y), List.length_map, List.length_take]
    congr 1; omega
  rw [List.take_left' hl, List.drop_left' hl]
  exact ⟨h1, h2⟩
theorem rds_ins {w : World} {l : List GClip} {es vs : List Value} {k j : Nat} {c : GClip} (h : T.rds w (l.map GClip.t) es) (hk : k ≤ l.length) (hj : j ≤ l.length) (hc : T.rds w c.fs vs) : T.rds w ((l.take k ++ c :: l.drop j).map GClip.t) (es.take (k * 5) ++ (vs ++ es.drop (j * 5))) := by
  rw [List.map_append, List.map_cons]
  refine (T.rds_app _ _ _).2 ⟨_, _, rfl, (rds_cut h hk).1, ?_⟩
  simp only [T.rds]
  exact ⟨vs, _, rfl, by simpa only [GClip.t, T.rd] using hc, (rds_cut h hj).2⟩
theorem rds_del {w : World} {l : List GClip} {es : List Value} {k j : Nat} (h : T.rds w (l.map GClip.t) es) (hk : k ≤ l.length) (hj : j ≤ l.length) : T.rds w ((l.take k ++ l.drop j).map GClip.t) (es.take (k * 5) ++ es.drop (j * 5)) := by
  rw [List.map_append]
  exact (T.rds_app _ _ _).2 ⟨_, _, rfl, (rds_cut h hk).1, (rds_cut h hj).2⟩
theorem grown_all {w w1 w' : World} {r : Option Nat} (hb : Below w.heap.size w w1) (hg : w1.grownBy w' r) (hr : ∀ k, r = some k → w.heap.size ≤ k) : Below w.heap.size w w' := hb.grown hg hb.size hr
set_option maxHeartbeats 4000000 in
set_option maxRecDepth 100000 in
theorem c_edited (l : List GClip) (ek et ev ns nf nl na ng : Int) (k : Nat) (v : Value) (w : World) (hr : T.rd w (T.sl 39 5 (l.map GClip.t)) [v]) (hl : l.length ≤ 1048576) (h1 : ek = 1 → k ≤ l.length) (h2 : ek ≠ 1 → k < l.length) :
    Calls Tryz.prog 113 #[v, .agg #[.int .i64 ek, .int .i64 et, .int .i64 (k : Int), .int .i64 ev, .int .i64 ns, .int .i64 nf, .int .i64 nl, .int .i64 na, .int .i64 ng]] w fun r w' =>
      ∃ v' F, r = .returned v' ∧ Own w.heap.size w' (T.sl 39 5 ((editL l ⟨ek, et, (k : Int), ev, ⟨ns, nf, nl, na, ng⟩⟩).map GClip.t)) F v' ∧ Below w.heap.size w w' := by
  obtain ⟨es, hrd, hrs⟩ := T.rd_row hr
  rw [List.length_map] at hrd
  have hel := hrd.1
  have h1c := T.rds_cell _ _ hrs
  have hvs : T.rds w (GClip.fs ⟨ns, nf, nl, na, ng⟩) [.int .i64 ns, .int .i64 nf, .int .i64 nl, .int .i64 na, .int .i64 ng] := GClip.rd_mk (x := ⟨ns, nf, nl, na, ng⟩)
  have HRD := hide hrd; have HRS := hide hrs; have HEL := hide hel; have H1C := hide h1c; have HVS := hide hvs
  have HBa := hide (show Below w.heap.size w (w.alloc (.cells #[.int .i64 ek, .int .i64 et, .int .i64 (k : Int), .int .i64 ev, .int .i64 ns, .int .i64 nf, .int .i64 nl, .int .i64 na, .int .i64 ng] 41)) from (Below.refl _ _).alloc (Nat.le_refl _) _)
  have HEa := hide (Bk.born w 41 #[.int .i64 ek, .int .i64 et, .int .i64 (k : Int), .int .i64 ev, .int .i64 ns, .int .i64 nf, .int .i64 nl, .int .i64 na, .int .i64 ng])
  obtain ⟨hl0, A, cap, rfl, hc1, hc2, hcell⟩ := hrd
  clear hr hrs hel h1c hvs hl0 hcell
  have hw : IntKind.i64.wrap (k : Int) = (k : Int) := by
    have : k ≤ l.length := by by_cases h : ek = 1; exact h1 h; exact Nat.le_of_lt (h2 h)
    rw [IntKind.wrap_i64]; omega
  go_enter Tryz.func113, Tryz.ntmps113
  go_wp2_with fail
  go_region_held3 (fun w' => ∀ i, w'.cell? ⟨w.heap.size, i, none⟩ = #[.int .i64 ek, .int .i64 et, .int .i64 (k : Int), .int .i64 ev, .int .i64 ns, .int .i64 nf, .int .i64 nl, .int .i64 na, .int .i64 ng][i]?) (first | with_reducible exact HEb.out.cell | exact HEa.out.cell) ((go_at_call 191; refine (c_cloneClip _ l.length es _ (HRD.out.below (by first | exact HBa.out | exact HBa.out.drew)) H1C.out hl).mono ?_; rintro e wC ⟨vC, rfl, hoC, hbC⟩; have HOC := hide (own_more hoC (show w.heap.size + 1 ≤ _ from (by simp))); have hb1 := undrew hbC; have HBc := hide (bthen HBa.out HBa.out.size hb1); have HEb := hide (HEa.out.below hb1 HEa.out.lt); clear hoC hbC hb1))
  have ke := HEb.out.cell
  have hel := HEL.out
  by_cases k1 : ek = 1
  · have q1 : (ek == 1) = true := beqI_t k1
    have hk := h1 k1
    have HK := hide hk; have HK1 := hide k1
    have hba : Below wC.heap.size wC (wC.alloc (.cells #[.int .i64 ns, .int .i64 nf, .int .i64 nl, .int .i64 na, .int .i64 ng] 39)) := (Below.refl _ _).alloc (Nat.le_refl _) _
    have hob := own_more (own_all HOC.out hba) (Nat.le_succ w.heap.size)
    have HOA := hide hob; have HBA := hide hba
    have HNE := hide (show ∀ b, vC.ownBlock = some b → wC.heap.size ≠ b from fun b hb e => by have := (HOC.out.lt b hb).2; omega)
    clear h1 h2 hk k1 hba hob hel
    go_wp2_with (go_at_call 192; refine (c_insClip (B := w.heap.size) vC l.length k wC.heap.size es [.int .i64 ns, .int .i64 nf, .int .i64 nl, .int .i64 na, .int .i64 ng] _ HOA.out (Nat.le_trans HBc.out.size HBA.out.size) HK.out hl (Bk.born _ _ _) rfl HNE.out H1C.out (T.rds_cell _ _ HVS.out)).mono ?_; rintro e wD ⟨vD, rfl, hoD, hgD⟩; have HOD := hide hoD; have HGD := hide hgD; clear hoD hgD)
    go_ret
    refine ⟨vD, _, rfl, Own.of_flat (w' := w) (GClip.flat _) GClip.wide_t HOD.out ?_ ?_, grown_all (HBc.out.alloc HBc.out.size _) HGD.out (fun b hb => by have := (HOC.out.lt b hb).1; omega)⟩
    · have := rds_ins (k := k) (j := k) HRS.out HK.out HK.out HVS.out
      unfold editL
      rw [if_pos HK1.out]
      exact this
    · unfold editL
      rw [if_pos HK1.out]
      have := HK.out
      simp; omega
  · have q1 : (ek == 1) = false := beqI_f k1
    have hk := h2 k1
    have HK := hide hk; have HK1 := hide k1
    clear h1 h2 hk k1
    rcases HOC.out.2 with ⟨_, h0⟩ | ⟨g, cp, cur, rfl, hbg, hg, hnc, hcm, hcs, htk⟩
    · have := HK.out; omega
    have hkl := HK.out
    have hg2 : Bk wC g 39 cur := hg
    have HGB := hide hg2
    clear hg hg2
    by_cases k2 : ek = 2
    · have q2 : (ek == 2) = true := beqI_t k2
      have HK2 := hide k2; clear k2
      obtain ⟨m, hm⟩ : ∃ m, l.length = k + 1 + m := ⟨l.length - (k + 1), by omega⟩
      have hcap : cp ≤ 9223372036854775807 := by unfold maxLen at hcm; omega
      have hw1 : IntKind.i64.wrap ((k : Int) + 1) = (k : Int) + 1 := by rw [IntKind.wrap_i64]; omega
      have HM := hide hm; have HCS := hide hcs; have HTK := hide htk
      rw [hm] at htk hnc
      have HTK2 := hide htk
      have hnn : k + 1 + m ≤ 1048576 := by omega
      clear hm hcs htk hel
      go_wp2_with (go_at_call 193; rw [HM.out]; refine (c_delClip g cp k m cur es wC hnc hcap hnn HGB.out HCS.out HTK2.out H1C.out).mono ?_; rintro e wD ⟨rfl, ⟨cur', hk1, hk2, hk3⟩, hgD⟩; have HD1 := hide hk1; have HD2 := hide hk2; have HD3 := hide hk3; have HGD := hide hgD; clear hk1 hk2 hk3 hgD)
      go_ret
      have hel := HEL.out
      rw [HM.out] at hel
      refine ⟨_, _, rfl, Own.of_flat (w' := w) (GClip.flat _) GClip.wide_t (ownsRow_of (es := es.take (k * 5) ++ es.drop ((k + 1) * 5)) (by simp only [List.length_append, List.length_take, List.length_drop, hel]; omega) (show w.heap.size ≤ g by omega) HD1.out (by omega) hcm HD2.out HD3.out) ?_ ?_, grown_all HBc.out HGD.out (fun b hb => by injection hb with hb; omega)⟩
      · have := rds_del (k := k) (j := k + 1) HRS.out (by have := HM.out; omega) (by have := HM.out; omega)
        unfold editL
        rw [if_neg HK1.out, if_pos HK2.out]
        exact this
      · unfold editL
        rw [if_neg HK1.out, if_pos HK2.out]
        have := HM.out
        simp; omega
    · have q2 : (ek == 2) = false := beqI_f k2
      have HK2 := hide k2; clear k2
      have hi0 : (0 : Int) ≤ (k : Int) := by omega
      have hi1 : (k : Int) < (l.length : Int) := by omega
      have hgc : ∀ j, wC.frozen? ⟨g, j, none⟩ = false := HGB.out.free
      have hgs : ∀ j, j < cp * 5 → (wC.cell? ⟨g, j, none⟩).isSome = true := fun j hj => by rw [HGB.out.cell j, Array.getElem?_eq_getElem (by omega)]; rfl
      have hge : ¬ w.heap.size = g := by omega
      have hge2 : ¬ g = w.heap.size := by omega
      have hc : ∀ j, j < 5 → (wC.cell? ⟨g, k * 5 + j, none⟩).isSome = true := fun j hj => hgs _ (by omega)
      have hlt : g < wC.heap.size := HGB.out.lt
      have hcut : es = es.take (k * 5) ++ ((es.drop (k * 5)).take 5 ++ (es.drop (k * 5)).drop 5) := by rw [List.take_append_drop, List.take_append_drop]
      have hcx : ((es.drop (k * 5)).take 5).length = 5 := by rw [List.length_take, List.length_drop, hel]; omega
      have hc1 : (es.take (k * 5)).length = k * 5 := by rw [List.length_take, hel]; omega
      have hdd : (es.drop (k * 5)).drop 5 = es.drop ((k + 1) * 5) := by rw [List.drop_drop]; congr 1; omega
      have ho := HOC.out
      rw [hcut] at ho
      generalize (es.drop (k * 5)).take 5 = cx at *
      obtain ⟨x1, x2, x3, x4, x5, rfl⟩ := len5 hcx
      have s1 := own_st 0 (u := .int .i64 ns) ho hc1 (by simp)
      have s2 := own_st 1 (u := .int .i64 nf) s1 hc1 (by simp)
      have s3 := own_st 2 (u := .int .i64 nl) s2 hc1 (by simp)
      have s4 := own_st 3 (u := .int .i64 na) s3 hc1 (by simp)
      have s5 := own_st 4 (u := .int .i64 ng) s4 hc1 (by simp)
      rw [hdd] at s5
      have S5 := hide s5
      have a0 : wC.cell? ⟨g, k * 5, none⟩ = some x1 := own_at 0 ho hc1 rfl
      have a1 := own_at 1 ho hc1 (show [x1, x2, x3, x4, x5][1]? = some x2 from rfl); have a2 := own_at 2 ho hc1 (show [x1, x2, x3, x4, x5][2]? = some x3 from rfl); have a3 := own_at 3 ho hc1 (show [x1, x2, x3, x4, x5][3]? = some x4 from rfl); have a4 := own_at 4 ho hc1 (show [x1, x2, x3, x4, x5][4]? = some x5 from rfl)
      clear s1 s2 s3 s4 s5 ho hcut hcx hc1 hdd hc hgs hel hcs htk
      go_wp2
      go_ret
      refine ⟨_, _, rfl, Own.of_flat (w' := w) (GClip.flat _) GClip.wide_t (own_more S5.out (Nat.le_succ _)) ?_ ?_, ?_⟩
      · have := rds_ins (k := k) (j := k + 1) HRS.out (by omega) (by omega) HVS.out
        unfold editL
        rw [if_neg HK1.out, if_neg HK2.out]
        exact this
      · unfold editL
        rw [if_neg HK1.out, if_neg HK2.out]
        simp; omega
      · have hb := HBc.out
        have hl2 : w.heap.size ≤ g := by omega
        exact ((((hb.setCell hl2 _).setCell hl2 _).setCell hl2 _).setCell hl2 _).setCell hl2 _
end Go.Proofs.YtajoaflfjilhmaaGreat
end
section
namespace Go.Proofs.YtajoaflfjilhmaaGreat
open Go.RowKit
set_option maxHeartbeats 2000000 in
set_option maxRecDepth 20000 in
theorem c_clones (v : Value) (xs : List (List Int)) (w : World) (hs : smL (fun l : List Int => l.length ≤ 1048576) xs) (hr : T.rd w (T.sl 26 1 (xs.map (T.ints 2))) [v]) :
    Calls Tryz.prog 109 #[v] w fun e w' => ∃ v' F, e = .returned v' ∧ Own w.heap.size w' (T.sl 26 1 (xs.map (T.ints 2))) F v' ∧ Below w.heap.size w w' := by
  obtain ⟨A, cap, rfl, hl, hc, hx⟩ := T.rd_openG hr
  have HX := hide hx; have HS := hide hs; clear hx hr hs
  have HL := hide HS.out.1
  have HO0 := hide (Own.born (World.ownsRow_made w #[] 0 (Nat.le_refl _) (by decide) rfl : (w.alloc (.cells #[] 26)).ownsRow w.heap.size 26 1 (.slice (some ⟨w.heap.size, 0, none⟩) 0 0) 0 []))
  have HB0 := hide (show Below w.heap.size w (w.alloc (.cells #[] 26)) from (Below.refl _ _).alloc (Nat.le_refl _) _)
  go_enter Tryz.func109, Tryz.ntmps109
  go_wp2
  go_loopw [3, 9] (fun r i wr => ∃ k F, k ≤ xs.length ∧ i = .int .i64 (k : Int) ∧ Own w.heap.size wr (T.sl 26 1 ((xs.take k).map (T.ints 2))) F r ∧ Below w.heap.size w wr) (fun _ i _ => xs.length - (intOf i).toNat)
  case atStart => exact ⟨0, _, Nat.zero_le _, rfl, by rw [List.take_zero]; exact HO0.out, HB0.out⟩
  case round =>
    obtain ⟨k, F, hk, rfl, ho, hb⟩ := hrel
    have HO := hide ho; have HB := hide hb; clear ho hb
    by_cases hlt : k < xs.length
    · have hgk := List.getElem?_eq_getElem hlt
      obtain ⟨b, off, cs, rfl, hb, hcs, hcell⟩ := HX.out k xs[k] hgk
      have hll := HS.out.2 xs[k] (List.getElem_mem hlt)
      generalize xs[k] = l at *
      have HG := hide hgk; clear hgk
      obtain ⟨v3, rfl⟩ := T.rd_one hcs
      have d0 := (HB.out.cell hb).trans (hcell 0 v3 rfl)
      rw [Nat.mul_one, Nat.add_zero] at d0
      have hb2 : b < wr.heap.size := Nat.lt_of_lt_of_le hb HB.out.size
      have R := hide (T.rd_ints.1 hcs); clear hcs hcell
      obtain ⟨A3, c3, rfl, l3, m3, x3⟩ := R.out.open_
      clear x3
      have HLL := hide hll; clear hll
      go_wp2_with fail
      refine (c_clone _ l _ (Rd.below R.out HB.out) HLL.out).mono ?_; rintro e w1 ⟨v1, rfl, ho1, hb1⟩
      obtain ⟨A1, c1, rfl, -, -, -⟩ := ho1.rd.open_
      have HN1 := hide (Nv.ints ho1 hb1)
      have HO1 := hide (HO.out.all hb1); have HB1 := hide (bthen HB.out HB.out.size hb1)
      have hsz : wr.heap.size ≤ w1.heap.size := hb1.size
      clear ho1 hb1
      go_wp2_with (at_builtin; refine app1_T rfl _ _ _ rfl w.heap.size 26 _ 1 24 Tryz.underlying24 info_Int64SS rfl (by omega) rfl HO1.out HN1.out.ow HN1.out.nodup (fun b hb => Nat.le_trans HB.out.size (HN1.out.lo b hb)) (fun b hb hb2 => by have h1 := HO.out.lt b hb; have h2 := HN1.out.lo b hb2; omega) rfl rfl (by rw [List.length_map, List.length_take]; have := HL.out; omega) (by rw [List.length_map, List.length_take]; have := HL.out; omega) HB1.out.size ?_; intro v8 w8 F8 ho8 hg8 hv8; have HO8 := hide ho8; have HB8 := hide (HO1.out.below HB1.out HB1.out.size hg8); clear ho8 hg8 hv8)
      go_roundw
      case rel => exact ⟨k + 1, F8, by omega, by go_num, by rw [take_snoc_of HG.out, List.map_append]; exact HO8.out, HB8.out⟩
      case measure => simp [intOf]; omega
    · obtain rfl : k = xs.length := by omega
      go_wp2
      go_ret
      exact ⟨_, F, rfl, by have := HO.out; rwa [List.take_length] at this, HB.out⟩
set_option maxHeartbeats 2000000 in
set_option maxRecDepth 20000 in
theorem c_copyNode (x : GNode) (cs : List Value) (w : World) (hs : x.small) (h : T.rds w x.fs cs) : Calls Tryz.prog 186 #[.agg cs.toArray] w fun e w' => ∃ v F, e = .returned (.agg #[.int .i64 x.fKind, .int .i64 x.fA, .int .i64 x.fB, v]) ∧ Nw w w' x.fs F [.int .i64 x.fKind, .int .i64 x.fA, .int .i64 x.fB, v] := by
  obtain ⟨v3, rfl, h3⟩ := GNode.rd_open h
  have h3i := T.rd_ints.1 h3; obtain ⟨A, cap, rfl, hl, hm, hx⟩ := h3i.open_
  have R := hide h3i; clear hx h3 h3i h
  have HS := hide (show x.fFrom.length ≤ 1048576 from hs); clear hs
  have HB0 := hide (show Below w.heap.size w ((w.alloc (.cells #[.int .i64 x.fKind, .int .i64 x.fA, .int .i64 x.fB, .slice A x.fFrom.length cap] 199)).alloc (.cells #[.int .i64 0, .int .i64 0, .int .i64 0, .slice none 0 0] 199)) from ((Below.refl _ _).alloc (Nat.le_refl _) _).alloc (by simp) _)
  have HK0 := hide ((Bk.born w 199 #[.int .i64 x.fKind, .int .i64 x.fA, .int .i64 x.fB, .slice A x.fFrom.length cap]).alloc (.cells #[.int .i64 0, .int .i64 0, .int .i64 0, .slice none 0 0] 199))
  have HR0 := hide (Bk.born1' w (.cells #[.int .i64 x.fKind, .int .i64 x.fA, .int .i64 x.fB, .slice A x.fFrom.length cap] 199) 199 #[.int .i64 0, .int .i64 0, .int .i64 0, .slice none 0 0])
  go_enter Tryz.func186, Tryz.ntmps186
  go_wp2_with fail
  refine (c_clone _ x.fFrom _ (Rd.below R.out HB0.out) HS.out).mono ?_; rintro e w1 ⟨v1, rfl, ho1, hb1⟩
  obtain ⟨A1, c1, rfl, -, -, -⟩ := ho1.rd.open_
  have HN1 := hide (Nv.ints ho1 hb1)
  have HK1 := hide (HK0.out.below hb1 HK0.out.lt); have HR1 := hide (HR0.out.below hb1 HR0.out.lt)
  have HB1 := hide (bthen HB0.out HB0.out.size hb1)
  have hsz : w.heap.size + 2 ≤ w1.heap.size := by have := hb1.size; simpa using this
  have HLO := hide (show ∀ b ∈ (Value.slice A1 x.fFrom.length c1).ownBlock.toList, w.heap.size + 2 ≤ b from fun b hb => by have := HN1.out.lo b hb; simpa using this)
  clear ho1 hb1
  have k1 := HK1.out.cell; have f1 := HK1.out.free; have k2 := HR1.out.cell; have f2 := HR1.out.free
  have q1 : w.heap.size < w1.heap.size := by omega
  have q2 : w.heap.size + 1 < w1.heap.size := by omega
  have g1 : w.heap.size ∉ (Value.slice A1 x.fFrom.length c1).ownBlock.toList := fun h => by have := HLO.out _ h; omega
  have g2 : w.heap.size + 1 ∉ (Value.slice A1 x.fFrom.length c1).ownBlock.toList := fun h => by have := HLO.out _ h; omega
  have G1 := hide g1; have G2 := hide g2; clear g1 g2
  go_wp2
  refine bodyPost_ret (v := .agg #[.int .i64 x.fKind, .int .i64 x.fA, .int .i64 x.fB, .slice A1 x.fFrom.length c1]) (by simp [results, Tryz.results186, go_sem, k1, f1, k2, f2]) rfl ?_
  have hb := HB1.out
  refine ⟨_, (Value.slice A1 x.fFrom.length c1).ownBlock.toList, rfl, ?_, HN1.out.nodup, fun b hb => by have := HLO.out b hb; omega, (by repeat (first | with_reducible exact Below.refl _ _ | with_reducible assumption | with_reducible refine Below.alloc ?_ (by first | exact Nat.le_refl _ | (simp; done) | (simp; omega)) _ | with_reducible refine Below.setCell ?_ (by first | omega | (simp; done) | (simp; omega)) _ | with_reducible refine Below.drew ?_ | with_reducible refine below_drewN ?_ _))⟩
  have ho : T.ow w1 (T.ints 2 x.fFrom) (Value.slice A1 x.fFrom.length c1).ownBlock.toList [.slice A1 x.fFrom.length c1] := HN1.out.ow
  rw [show (Value.slice A1 x.fFrom.length c1).ownBlock.toList = (Value.slice A1 x.fFrom.length c1).ownBlock.toList ++ [] by simp]
  refine GNode.ow_mk (x := x) ?_
  repeat (first | with_reducible exact ho | with_reducible refine T.ow_far ?_ G1.out _ _ | with_reducible refine T.ow_far ?_ G2.out _ _)
end Go.Proofs.YtajoaflfjilhmaaGreat
end
