/- Contracts: reading a cache, both sides. Contracts on whole structs that own their memory. -/
import Derived.Test.YtfifcnojkjjnkaaGreatQAyExactReadCache
import Derived.Test.YtfifcnojkjjnkaaGreatQAeExactReadCache
import Derived.Test.YtfifcnojkjjnkaaGreatQAhExactReadCache
import Derived.Test.YtfifcnojkjjnkaaGreatQAqExactReadCache
set_option linter.unusedVariables false
set_option linter.unusedSimpArgs false
section
namespace Go.Proofs.YtfifcnojkjjnkaaGreat
open Go.RowKit
set_option maxHeartbeats 2000000 in
set_option maxRecDepth 20000 in
theorem c_zerosE (n : Nat) (w : World) (hn : n ≤ 1048576) : Calls Tryz.prog 143 #[.int .i64 (n : Int)] w fun e w' => e = .returned (.slice (some ⟨w.heap.size, 0, none⟩) n n) ∧ OwI 2 w' w.heap.size (.slice (some ⟨w.heap.size, 0, none⟩) n n) (List.replicate n 0) ∧ Below w.heap.size w w' := by
  obtain ⟨i0, hi, hz0, hz1, hz2⟩ := info_parts info_i64
  go_enter Tryz.func143, Tryz.ntmps143
  go_wp2_with (at_make; refine wpList_make_full _ rfl _ _ _ rfl w.heap.size 2 i0 _ 1 Tryz.underlying33 hi hz0 hz1 .i64 .i64 _ _ n rfl rfl rfl rfl (by rw [hz2]; omega) (by unfold maxLen; omega) (Nat.le_refl _) ?_; intro w1 hown1 hg1)
  have ho1 : OwI 2 w1 w.heap.size _ _ := OwI.made _ w1 (n := n) hg1.size (by unfold maxLen; omega) 0 hown1
  have hb1 : Below w.heap.size w w1 := (Below.refl _ _).grown hg1 (Nat.le_refl _) (by simp)
  clear hown1 hg1
  have HO := hide ho1; have HB := hide hb1; clear ho1 hb1
  go_wp2
  go_ret
  exact ⟨rfl, HO.out, HB.out⟩
/-- The sample at a place: 0 outside. -/
def smpAt (xs : List Int) (i : Int) : Int := if 0 ≤ i ∧ i < (xs.length : Int) then xs.getD i.toNat 0 else 0
theorem smpAt_in {xs : List Int} {k : Nat} {x : Int} (h : xs[k]? = some x) : smpAt xs (k : Int) = x := by
  have hl := (List.getElem?_eq_some_iff.1 h).1
  unfold smpAt
  rw [if_pos ⟨by omega, by omega⟩, Int.toNat_natCast, List.getD_eq_getElem?_getD, h]
  rfl
theorem smpAt_out {xs : List Int} {i : Int} (h : ¬ (0 ≤ i ∧ i < (xs.length : Int))) : smpAt xs i = 0 := by unfold smpAt; rw [if_neg h]
def cutL (xs : List Int) (from_ : Int) (n : Nat) : List Int := (List.range n).map fun (k : Nat) => smpAt xs (from_ + (k : Int))
theorem length_cutL (xs : List Int) (f : Int) (n : Nat) : (cutL xs f n).length = n := by simp [cutL]
theorem cutL_snoc (xs : List Int) (f : Int) (n : Nat) : cutL xs f (n + 1) = cutL xs f n ++ [smpAt xs (f + (n : Int))] := by
  unfold cutL; rw [List.range_succ, List.map_append]; rfl
/-- A cut half laid: zeros behind. -/
def cutZ (xs : List Int) (f : Int) (n k : Nat) : List Int := cutL xs f k ++ List.replicate (n - k) 0
theorem length_cutZ {xs : List Int} {f : Int} {n k : Nat} (h : k ≤ n) : (cutZ xs f n k).length = n := by simp [cutZ, length_cutL]; omega
theorem cutZ_set {xs : List Int} {f : Int} {n k : Nat} (h : k < n) : (cutZ xs f n k).set k (smpAt xs (f + (k : Int))) = cutZ xs f n (k + 1) := by
  unfold cutZ
  rw [List.set_append_right _ _ (by rw [length_cutL]; exact Nat.le_refl _), length_cutL, Nat.sub_self, cutL_snoc, List.append_assoc]
  congr 1
  rw [show n - k = (n - (k + 1)) + 1 by omega, List.replicate_succ]
  rfl
theorem cutZ_full (xs : List Int) (f : Int) (n : Nat) : cutZ xs f n n = cutL xs f n := by simp [cutZ]
theorem cutZ_none (xs : List Int) (f : Int) (n : Nat) : cutZ xs f n 0 = List.replicate n 0 := by simp [cutZ, cutL]
set_option maxHeartbeats 2000000 in
set_option maxRecDepth 20000 in
theorem c_has (v : Value) (xs : List Int) (n : Int) (w : World) (hr : RdI w v xs) : Calls Tryz.prog 75 #[v, .int .i64 n] w fun e w' => e = .returned (.bool (decide (n ∈ xs))) ∧ w = w' := by
  obtain ⟨A, cap, rfl, hl, hc, hx⟩ := hr.open_
  have HX := hide hx; clear hx hr
  go_enter Tryz.func75, Tryz.ntmps75
  go_wp2
  go_loop [9] (fun i => ∃ k : Nat, k ≤ xs.length ∧ i = .int .i64 k ∧ Upto xs (fun _ x => x ≠ n) k) (fun i => xs.length - (intOf i).toNat)
  case atStart => exact ⟨0, Nat.zero_le _, rfl, Upto.zero⟩
  case round =>
    obtain ⟨k, hk, rfl, hs⟩ := hrel
    have HS := hide hs; clear hs
    by_cases hlt : k < xs.length
    · have hgk := List.getElem?_eq_getElem hlt
      obtain ⟨b, off, rfl, hb, hcell⟩ := HX.out k xs[k] hgk
      generalize xs[k] = x at *
      have HG := hide hgk; clear hgk
      by_cases hq : x = n
      · have q : (n == x) = true := beqI_t hq.symm
        have HQ := hide hq; clear hq
        go_wp2
        go_ret
        exact ⟨ret_bool (decide_eq_true (by rw [← HQ.out]; exact List.mem_of_getElem? HG.out)).symm, rfl⟩
      · have q : (n == x) = false := beqI_f (fun e => hq e.symm)
        have HQ := hide hq; clear hq
        go_wp2
        go_round
        case rel => exact ⟨k + 1, by omega, by go_num, HS.out.step HG.out HQ.out⟩
        case measure => simp [intOf]; omega
    · have hall := hide (HS.out.all (by omega))
      go_wp2
      go_ret
      exact ⟨ret_bool (decide_eq_false (fun h => by
        obtain ⟨i, hi, e⟩ := List.mem_iff_getElem.1 h
        exact hall.out i _ (List.getElem?_eq_getElem hi) e)).symm, rfl⟩
set_option maxHeartbeats 2000000 in
set_option maxRecDepth 20000 in
theorem c_at (v : Value) (xs : List Int) (i : Int) (w : World) (h0 : 0 ≤ i) (hr : RdI w v xs) : Calls Tryz.prog 144 #[v, .int .i64 i] w fun e w' => e = .returned (.int .i64 (smpAt xs i)) ∧ w = w' := by
  have HR := hide hr
  obtain ⟨A, cap, rfl, hl, hc, hx⟩ := hr.open_
  have HX := hide hx; clear hx hr
  obtain ⟨k, rfl⟩ : ∃ k : Nat, i = (k : Int) := ⟨i.toNat, by omega⟩
  have SZ : True := trivial
  by_cases hlt : k < xs.length
  · have hgk := List.getElem?_eq_getElem hlt
    obtain ⟨b, off, rfl, hb, hcell⟩ := HX.out k xs[k] hgk
    generalize xs[k] = y at *
    have HG := hide hgk; clear hgk
    have n1 : ((k : Int) < (xs.length : Int)) := by omega
    have HS := hide (smpAt_in HG.out)
    go_enter Tryz.func144, Tryz.ntmps144
    go_wp2_with (go_at_call 138; refine (c_size _ xs _ HR.out).mono ?_; rintro e w' ⟨rfl, rfl⟩)
    go_ret
    exact ⟨ret_int HS.out.symm, rfl⟩
  · have HS := hide (smpAt_out (xs := xs) (i := (k : Int)) (by omega))
    go_enter Tryz.func144, Tryz.ntmps144
    go_wp2_with (go_at_call 138; refine (c_size _ xs _ HR.out).mono ?_; rintro e w' ⟨rfl, rfl⟩)
    go_ret
    exact ⟨ret_int HS.out.symm, rfl⟩
set_option maxHeartbeats 2000000 in
set_option maxRecDepth 20000 in
theorem c_l03At (v : Value) (xs : List Int) (i : Int) (w : World) (hr : RdI w v xs) : Calls Tryz.prog 142 #[v, .int .i64 i] w fun e w' => e = .returned (.int .i64 (smpAt xs i)) ∧ w = w' := by
  obtain ⟨A, cap, rfl, hl, hc, hx⟩ := hr.open_
  have HX := hide hx; clear hx hr
  by_cases hin : 0 ≤ i ∧ i < (xs.length : Int)
  · have hq : inB i 0 ((xs.length : Int) - 1) = true := inB_iff.2 (by omega)
    obtain ⟨k, rfl⟩ : ∃ k : Nat, i = (k : Int) := ⟨i.toNat, by omega⟩
    have hlt : k < xs.length := by omega
    have hgk := List.getElem?_eq_getElem hlt
    obtain ⟨b, off, rfl, hb, hcell⟩ := HX.out k xs[k] hgk
    generalize xs[k] = y at *
    have HG := hide hgk; clear hgk
    have n1 : ((k : Int) < (xs.length : Int)) := by omega
    have HS := hide (smpAt_in HG.out)
    clear hin
    go_enter Tryz.func142, Tryz.ntmps142
    go_wp2_with (go_at_call 71; refine (c_l00In _ _ _ _).mono ?_; rintro e w' ⟨rfl, rfl⟩)
    go_ret
    exact ⟨ret_int HS.out.symm, rfl⟩
  · have hq : inB i 0 ((xs.length : Int) - 1) = false := inB_false.2 (by omega)
    have HS := hide (smpAt_out (xs := xs) hin)
    clear hin
    go_enter Tryz.func142, Tryz.ntmps142
    go_wp2_with (go_at_call 71; refine (c_l00In _ _ _ _).mono ?_; rintro e w' ⟨rfl, rfl⟩)
    go_ret
    exact ⟨ret_int HS.out.symm, rfl⟩
set_option maxHeartbeats 2000000 in
set_option maxRecDepth 20000 in
theorem c_l03Slice (v : Value) (xs : List Int) (f : Int) (n : Nat) (w : World) (h0 : -1048576 ≤ f) (h1 : f ≤ 1048576) (hn : n ≤ 1048576) (hr : RdI w v xs) : Calls Tryz.prog 73 #[v, .int .i64 f, .int .i64 (n : Int)] w fun e w' => ∃ v', e = .returned v' ∧ OwI 2 w' w.heap.size v' (cutL xs f n) ∧ Below w.heap.size w w' := by
  have HR := hide hr; have HN0 := hide (new_i64 w); have HA0 := hide (show Below w.heap.size w (w.alloc (.cells #[] 2)) from (Below.refl _ _).alloc (Nat.le_refl _) _)
  obtain ⟨A, cap, rfl, hl, hc, hx⟩ := hr.open_
  clear hx hr
  go_enter Tryz.func73, Tryz.ntmps73
  go_wp2
  go_loopw [7, 8] (fun r i wr => ∃ k : Nat, k ≤ n ∧ i = .int .i64 k ∧ OwI 2 wr w.heap.size r (cutL xs f k) ∧ Below w.heap.size w wr) (fun _ i _ => n - (intOf i).toNat)
  case atStart => exact ⟨0, Nat.zero_le _, rfl, HN0.out, HA0.out⟩
  case round =>
    obtain ⟨k, hk, rfl, ho, hbw⟩ := hrel
    have HO := hide ho; have HB := hide hbw; have hsz := hbw.size; clear ho hbw
    by_cases hlt : k < n
    · have e1 : IntKind.i64.wrap (f + (k : Int)) = f + (k : Int) := IntWalk.i64_in _ (by omega)
      have hll : (cutL xs f k).length + 1 ≤ 17592186044416 := by rw [length_cutL]; omega
      go_wp2_with (first | (go_at_call 142; refine (c_l03At _ xs _ _ (Rd.below HR.out HB.out)).mono ?_; rintro e w' ⟨rfl, rfl⟩) | (at_builtin; refine app1_i64 (n := smpAt xs (f + (k : Int))) rfl _ _ rfl rfl HO.out rfl hll hsz ?_; intro v8 w8 ho8 hg8 hv8; have HO8 := hide ho8; have HB8 := hide (HB.out.grown hg8 hsz (fun j hj => (HO.out.lt j hj).1)); clear ho8 hg8 hv8))
      go_roundw
      case rel => exact ⟨k + 1, by omega, by go_num, by rw [cutL_snoc]; exact HO8.out, HB8.out⟩
      case measure => simp [intOf]; omega
    · obtain rfl : k = n := by omega
      go_wp2
      go_ret
      exact ⟨_, rfl, HO.out, HB.out⟩
set_option maxHeartbeats 2000000 in
set_option maxRecDepth 20000 in
theorem c_slice (v : Value) (xs : List Int) (f : Int) (n : Nat) (w : World) (h0 : 0 ≤ f) (h1 : f ≤ 1048576) (hn : n ≤ 1048576) (hr : RdI w v xs) : Calls Tryz.prog 76 #[v, .int .i64 f, .int .i64 (n : Int)] w fun e w' => ∃ v', e = .returned v' ∧ OwI 2 w' w.heap.size v' (cutL xs f n) ∧ Below w.heap.size w w' := by
  have HR := hide hr
  obtain ⟨A, cap, rfl, hl, hc, hx⟩ := hr.open_
  clear hx hr
  go_enter Tryz.func76, Tryz.ntmps76
  go_wp2_with fail
  refine (c_zerosE n _ hn).mono ?_; rintro e w1 ⟨rfl, ho1, hb1⟩
  have HO1 := hide (show OwI 2 w1 w.heap.size (.slice (some ⟨w.heap.size, 0, none⟩) n n) (cutZ xs f n 0) by rw [cutZ_none]; exact ho1)
  have HB1 := hide hb1; clear ho1 hb1
  go_wp2
  go_loopw [13] (fun i wr => ∃ k : Nat, k ≤ n ∧ i = .int .i64 k ∧ OwI 2 wr w.heap.size (.slice (some ⟨w.heap.size, 0, none⟩) n n) (cutZ xs f n k) ∧ Below w.heap.size w wr) (fun i _ => n - (intOf i).toNat)
  case atStart => exact ⟨0, Nat.zero_le _, rfl, HO1.out, HB1.out⟩
  case round =>
    obtain ⟨k, hk, rfl, ho, hbw⟩ := hrel
    have HO := hide ho; have HB := hide hbw; have hsz := hbw.size; clear ho hbw
    by_cases hlt : k < n
    · have e1 : IntKind.i64.wrap (f + (k : Int)) = f + (k : Int) := IntWalk.i64_in _ (by omega)
      have fr := HO.out.freeN k
      have n1 : ((k : Int) < (n : Int)) := by omega
      have hlk : k < (cutZ xs f n k).length := by rw [length_cutZ hk]; exact hlt
      have hck := hide (HO.out.cellN (List.getElem?_eq_getElem hlk))
      have ck := hck.out
      generalize (cutZ xs f n k)[k] = z0 at *
      go_wp2_with (go_at_call 144; refine (c_at _ xs _ _ (by omega) (Rd.below HR.out HB.out)).mono ?_; rintro e w' ⟨rfl, rfl⟩)
      have HO2 := hide (HO.out.setN k (smpAt xs (f + (k : Int))))
      have HG2 := hide (HO.out.grownN k (.int .i64 (smpAt xs (f + (k : Int)))))
      go_roundw
      case rel => exact ⟨k + 1, by omega, by go_num, by rw [← cutZ_set hlt]; exact HO2.out, HB.out.grown HG2.out hsz (fun j hj => by injection hj with hj; omega)⟩
      case measure => simp [intOf]; omega
    · obtain rfl : k = n := by omega
      go_wp2
      go_ret
      exact ⟨_, rfl, by rw [← cutZ_full]; exact HO.out, HB.out⟩
def DirtyIn (x : GCache) (f n : Int) : Prop := ∃ i : Int, f ≤ i ∧ i < f + n ∧ i / 16 ∈ x.fDirty
noncomputable def readF (x : GCache) (f n : Int) : List Int × Int :=
  if tf (CacheOk x) = true then (if inB f 0 x.fSession.fLength = true ∧ inB n 0 (x.fSession.fLength - f) = true then (if tf (DirtyIn x f n) = true then ([], 6) else (cutL x.fMix f n.toNat, 0)) else ([], 2)) else ([], 1)
set_option maxHeartbeats 2000000 in
set_option maxRecDepth 20000 in
theorem c_sReadCache (x : GCache) (cs : List Value) (f : Int) (n : Int) (w : World) (hs : x.fSession.small) (h : T.rds w x.fs cs) : Calls Tryz.prog 21 #[.agg cs.toArray, .int .i64 f, .int .i64 n] w fun e w' => ∃ v c, e = .returned (.tuple #[v, .int .i64 (readF x f n).2]) ∧ c = (readF x f n).1 ∧ OwI 2 w' w.heap.size v c ∧ Below w.heap.size w w' := by
  obtain ⟨v1, v2, v3, v4, v5, v6, v7, rfl, h1, h2, h3, h4, h5, h6, h7⟩ := GCache.rd_open h
  clear h
  have R1 := hide h1; obtain ⟨va1, vc1, rfl, vl1, vm1, vx1⟩ := T.rd_openG h1
  have HX1 := hide vx1; clear vx1 h1
  have R2 := hide h2; obtain ⟨va2, vc2, rfl, vl2, vm2, vx2⟩ := T.rd_openG h2
  have HX2 := hide vx2; clear vx2 h2
  have h3i := T.rd_ints.1 h3; obtain ⟨va3, vc3, rfl, vl3, vm3, vx3⟩ := h3i.open_
  have R3 := hide h3i; have HX3 := hide vx3; clear vx3 h3 h3i
  have R4 := hide h4; obtain ⟨va4, vc4, rfl, vl4, vm4, vx4⟩ := T.rd_openG h4
  have HX4 := hide vx4; clear vx4 h4
  have R5 := hide h5; obtain ⟨va5, vc5, rfl, vl5, vm5, vx5⟩ := T.rd_openG h5
  have HX5 := hide vx5; clear vx5 h5
  have h6i := T.rd_ints.1 h6; obtain ⟨va6, vc6, rfl, vl6, vm6, vx6⟩ := h6i.open_
  have R6 := hide h6i; have HX6 := hide vx6; clear vx6 h6 h6i
  have h7i := T.rd_ints.1 h7; obtain ⟨va7, vc7, rfl, vl7, vm7, vx7⟩ := h7i.open_
  have R7 := hide h7i; have HX7 := hide vx7; clear vx7 h7 h7i
  have HB0 := hide (show Below w.heap.size w (w.alloc (.cells #[.int .i64 x.fSession.fLength, (.slice va1 x.fSession.fSources.length vc1), (.slice va2 x.fSession.fTracks.length vc2), (.slice va3 x.fSession.fFeeds.length vc3), (.slice va4 x.fSession.fEffects.length vc4), (.slice va5 x.fSession.fMixer.fStrips.length vc5), (.slice va6 x.fMix.length vc6), (.slice va7 x.fDirty.length vc7)] 72)) from (Below.refl _ _).alloc (Nat.le_refl _) _)
  have HK0 := hide (Bk.born w 72 #[.int .i64 x.fSession.fLength, (.slice va1 x.fSession.fSources.length vc1), (.slice va2 x.fSession.fTracks.length vc2), (.slice va3 x.fSession.fFeeds.length vc3), (.slice va4 x.fSession.fEffects.length vc4), (.slice va5 x.fSession.fMixer.fStrips.length vc5), (.slice va6 x.fMix.length vc6), (.slice va7 x.fDirty.length vc7)])
  go_enter Tryz.func21, Tryz.ntmps21
  go_wp2_with fail
  refine (c_l31Cache x _ _ _ hs (T.at_bk HK0.out (GCache.rd_mk (T.rd_below R1.out HB0.out) (T.rd_below R2.out HB0.out) (T.rd_ints.2 (Rd.below R3.out HB0.out)) (T.rd_below R4.out HB0.out) (T.rd_below R5.out HB0.out) (T.rd_ints.2 (Rd.below R6.out HB0.out)) (T.rd_ints.2 (Rd.below R7.out HB0.out))))).mono ?_; rintro e w1 ⟨rfl, hd⟩
  have hb : Below (w.alloc (.cells #[.int .i64 x.fSession.fLength, (.slice va1 x.fSession.fSources.length vc1), (.slice va2 x.fSession.fTracks.length vc2), (.slice va3 x.fSession.fFeeds.length vc3), (.slice va4 x.fSession.fEffects.length vc4), (.slice va5 x.fSession.fMixer.fStrips.length vc5), (.slice va6 x.fMix.length vc6), (.slice va7 x.fDirty.length vc7)] 72)).heap.size (w.alloc (.cells #[.int .i64 x.fSession.fLength, (.slice va1 x.fSession.fSources.length vc1), (.slice va2 x.fSession.fTracks.length vc2), (.slice va3 x.fSession.fFeeds.length vc3), (.slice va4 x.fSession.fEffects.length vc4), (.slice va5 x.fSession.fMixer.fStrips.length vc5), (.slice va6 x.fMix.length vc6), (.slice va7 x.fDirty.length vc7)] 72)) w1 := by first | exact hd | exact hd.to_below _ | exact hd ▸ Below.refl _ _
  have HK1 := hide (HK0.out.below hb HK0.out.lt); have HB1 := hide (bthen HB0.out HB0.out.size hb); clear hb hd; have ka := HK1.out.cell; have la := HK1.out.lt
  by_cases q1 : CacheOk x
  rotate_left
  · have HR := hide (show readF x f n = ([], 1) by unfold readF; rw [if_neg (by rw [tf_no q1]; simp)])
    rw [tf_no q1]; clear q1
    go_wp2
    go_ret2
    exact ⟨_, _, by rw [HR.out]; rfl, rfl, by rw [HR.out]; exact OwI.nil_ _ _ _, HB1.out⟩
  have HQ := hide (tf_yes q1); rw [tf_yes q1]; have Q1 := hide q1; clear q1
  have i1 := inB_iff.1 Q1.out.session.length
  by_cases q2 : inB f 0 x.fSession.fLength = true
  rotate_left
  · have q2' : inB f 0 x.fSession.fLength = false := (by simpa using q2)
    have HR := hide (show readF x f n = ([], 2) by unfold readF; rw [if_pos HQ.out, if_neg (fun h => q2 h.1)])
    go_wp2_with (go_at_call 71; refine (c_l00In _ _ _ _).mono ?_; rintro e w' ⟨rfl, rfl⟩)
    go_ret2
    exact ⟨_, _, by rw [HR.out]; rfl, rfl, by rw [HR.out]; exact OwI.nil_ _ _ _, HB1.out⟩
  have i2 := inB_iff.1 q2
  have e0 : IntKind.i64.wrap (x.fSession.fLength - f) = x.fSession.fLength - f := IntWalk.i64_in _ (by omega)
  by_cases q3 : inB n 0 (x.fSession.fLength - f) = true
  rotate_left
  · have q3' : inB n 0 (x.fSession.fLength - f) = false := (by simpa using q3)
    have HR := hide (show readF x f n = ([], 2) by unfold readF; rw [if_pos HQ.out, if_neg (fun h => q3 h.2)])
    go_wp2_with (go_at_call 71; refine (c_l00In _ _ _ _).mono ?_; rintro e w' ⟨rfl, rfl⟩)
    go_ret2
    exact ⟨_, _, by rw [HR.out]; rfl, rfl, by rw [HR.out]; exact OwI.nil_ _ _ _, HB1.out⟩
  have i3 := inB_iff.1 q3
  have HR0 := hide (show readF x f n = if tf (DirtyIn x f n) = true then ([], 6) else (cutL x.fMix f n.toNat, 0) by unfold readF; rw [if_pos HQ.out, if_pos ⟨q2, q3⟩])
  go_wp2_with (go_at_call 71; refine (c_l00In _ _ _ _).mono ?_; rintro e w' ⟨rfl, rfl⟩)
  clear ka la
  go_loopw [8] (fun i wr => ∃ k : Int, f ≤ k ∧ k ≤ f + n ∧ i = .int .i64 k ∧ (∀ j : Int, f ≤ j → j < k → ¬ j / 16 ∈ x.fDirty) ∧ Below w1.heap.size w1 wr) (fun i _ => (f + n - intOf i).toNat)
  case atStart => exact ⟨f, by omega, by omega, rfl, fun j h1 h2 => by omega, Below.refl _ _⟩
  case round =>
    obtain ⟨k, hk0, hk1, rfl, hno, hbw⟩ := hrel
    have HNO := hide hno; have HW := hide hbw; have HB := hide (bthen HB1.out HB1.out.size hbw); have HK := hide (HK1.out.below hbw HK1.out.lt); clear hno hbw
    have ka := HK.out.cell; have la := HK.out.lt
    have e1 : IntKind.i64.wrap (f + n) = f + n := IntWalk.i64_in _ (by omega)
    have e2 : IntKind.i64.wrap (k + 1) = k + 1 := IntWalk.i64_in _ (by omega)
    by_cases hlt : k < f + n
    rotate_left
    · have HR := hide (show readF x f n = (cutL x.fMix f n.toNat, 0) by
        rw [HR0.out, if_neg (by rw [tf_no (fun ⟨i, a, b, c⟩ => HNO.out i a (by omega) c)]; simp)])
      obtain ⟨nn, rfl⟩ : ∃ nn : Nat, n = (nn : Int) := ⟨n.toNat, by omega⟩
      go_wp2_with fail
      refine (c_l03Slice _ x.fMix f nn _ (by omega) (by omega) (by omega) (Rd.below R6.out HB.out)).mono ?_; rintro e w5 ⟨v5, rfl, ho5, hb5⟩
      have HO5 := hide ho5; have HB5 := hide (bthen HB.out HB.out.size hb5); clear ho5 hb5
      have hsz := HB.out.size
      go_wp2
      go_ret2
      exact ⟨_, _, by rw [HR.out]; rfl, rfl, by rw [HR.out]; exact HO5.out.more hsz, HB5.out⟩
    have hdv : k.tdiv 16 = k / 16 := Int.tdiv_eq_ediv_of_nonneg (by omega)
    cases q5 : decide (k / 16 ∈ x.fDirty)
    · have Q5 := hide (of_decide_eq_false q5)
      go_wp2_with (go_at_call 72; refine (c_l00Has _ x.fDirty _ _ (Rd.below R7.out HB.out)).mono ?_; rintro e w' ⟨rfl, rfl⟩; rw [q5])
      go_roundw
      case rel => exact ⟨k + 1, by omega, by omega, by go_num, fun j h1 h2 => by
          by_cases e : j = k
          · subst e; exact Q5.out
          · exact HNO.out j h1 (by omega), HW.out⟩
      case measure => simp [intOf]; omega
    · have HR := hide (show readF x f n = ([], 6) by
        rw [HR0.out, if_pos (tf_yes ⟨k, hk0, hlt, of_decide_eq_true q5⟩)])
      go_wp2_with (go_at_call 72; refine (c_l00Has _ x.fDirty _ _ (Rd.below R7.out HB.out)).mono ?_; rintro e w' ⟨rfl, rfl⟩; rw [q5])
      go_ret2
      exact ⟨_, _, by rw [HR.out]; rfl, rfl, by rw [HR.out]; exact OwI.nil_ _ _ _, HB.out⟩
set_option maxHeartbeats 2000000 in
set_option maxRecDepth 20000 in
theorem c_iReadCache (x : GCache) (cs : List Value) (f : Int) (n : Int) (w : World) (hs : x.fSession.small) (h : T.rds w x.fs cs) : Calls Tryz.prog 22 #[.agg cs.toArray, .int .i64 f, .int .i64 n] w fun e w' => ∃ v c, e = .returned (.tuple #[v, .int .i64 (readF x f n).2]) ∧ c = (readF x f n).1 ∧ OwI 2 w' w.heap.size v c ∧ Below w.heap.size w w' := by
  obtain ⟨v1, v2, v3, v4, v5, v6, v7, rfl, h1, h2, h3, h4, h5, h6, h7⟩ := GCache.rd_open h
  clear h
  have R1 := hide h1; obtain ⟨va1, vc1, rfl, vl1, vm1, vx1⟩ := T.rd_openG h1
  have HX1 := hide vx1; clear vx1 h1
  have R2 := hide h2; obtain ⟨va2, vc2, rfl, vl2, vm2, vx2⟩ := T.rd_openG h2
  have HX2 := hide vx2; clear vx2 h2
  have h3i := T.rd_ints.1 h3; obtain ⟨va3, vc3, rfl, vl3, vm3, vx3⟩ := h3i.open_
  have R3 := hide h3i; have HX3 := hide vx3; clear vx3 h3 h3i
  have R4 := hide h4; obtain ⟨va4, vc4, rfl, vl4, vm4, vx4⟩ := T.rd_openG h4
  have HX4 := hide vx4; clear vx4 h4
  have R5 := hide h5; obtain ⟨va5, vc5, rfl, vl5, vm5, vx5⟩ := T.rd_openG h5
  have HX5 := hide vx5; clear vx5 h5
  have h6i := T.rd_ints.1 h6; obtain ⟨va6, vc6, rfl, vl6, vm6, vx6⟩ := h6i.open_
  have R6 := hide h6i; have HX6 := hide vx6; clear vx6 h6 h6i
  have h7i := T.rd_ints.1 h7; obtain ⟨va7, vc7, rfl, vl7, vm7, vx7⟩ := h7i.open_
  have R7 := hide h7i; have HX7 := hide vx7; clear vx7 h7 h7i
  have HB0 := hide (show Below w.heap.size w (w.alloc (.cells #[.int .i64 x.fSession.fLength, (.slice va1 x.fSession.fSources.length vc1), (.slice va2 x.fSession.fTracks.length vc2), (.slice va3 x.fSession.fFeeds.length vc3), (.slice va4 x.fSession.fEffects.length vc4), (.slice va5 x.fSession.fMixer.fStrips.length vc5), (.slice va6 x.fMix.length vc6), (.slice va7 x.fDirty.length vc7)] 72)) from (Below.refl _ _).alloc (Nat.le_refl _) _)
  have HK0 := hide (Bk.born w 72 #[.int .i64 x.fSession.fLength, (.slice va1 x.fSession.fSources.length vc1), (.slice va2 x.fSession.fTracks.length vc2), (.slice va3 x.fSession.fFeeds.length vc3), (.slice va4 x.fSession.fEffects.length vc4), (.slice va5 x.fSession.fMixer.fStrips.length vc5), (.slice va6 x.fMix.length vc6), (.slice va7 x.fDirty.length vc7)])
  go_enter Tryz.func22, Tryz.ntmps22
  go_wp2_with fail
  refine (c_isCache x _ _ hs (GCache.rd_mk (T.rd_below R1.out HB0.out) (T.rd_below R2.out HB0.out) (T.rd_ints.2 (Rd.below R3.out HB0.out)) (T.rd_below R4.out HB0.out) (T.rd_below R5.out HB0.out) (T.rd_ints.2 (Rd.below R6.out HB0.out)) (T.rd_ints.2 (Rd.below R7.out HB0.out)))).mono ?_; rintro e w1 ⟨rfl, hd⟩
  have hb : Below (w.alloc (.cells #[.int .i64 x.fSession.fLength, (.slice va1 x.fSession.fSources.length vc1), (.slice va2 x.fSession.fTracks.length vc2), (.slice va3 x.fSession.fFeeds.length vc3), (.slice va4 x.fSession.fEffects.length vc4), (.slice va5 x.fSession.fMixer.fStrips.length vc5), (.slice va6 x.fMix.length vc6), (.slice va7 x.fDirty.length vc7)] 72)).heap.size (w.alloc (.cells #[.int .i64 x.fSession.fLength, (.slice va1 x.fSession.fSources.length vc1), (.slice va2 x.fSession.fTracks.length vc2), (.slice va3 x.fSession.fFeeds.length vc3), (.slice va4 x.fSession.fEffects.length vc4), (.slice va5 x.fSession.fMixer.fStrips.length vc5), (.slice va6 x.fMix.length vc6), (.slice va7 x.fDirty.length vc7)] 72)) w1 := by first | exact hd | exact hd.to_below _ | exact hd ▸ Below.refl _ _
  have HK1 := hide (HK0.out.below hb HK0.out.lt); have HB1 := hide (bthen HB0.out HB0.out.size hb); clear hb hd; have ka := HK1.out.cell; have la := HK1.out.lt
  by_cases q1 : CacheOk x
  rotate_left
  · have HR := hide (show readF x f n = ([], 1) by unfold readF; rw [if_neg (by rw [tf_no q1]; simp)])
    rw [tf_no q1]; clear q1
    go_wp2
    go_ret2
    exact ⟨_, _, by rw [HR.out]; rfl, rfl, by rw [HR.out]; exact OwI.nil_ _ _ _, HB1.out⟩
  have HQ := hide (tf_yes q1); rw [tf_yes q1]; have Q1 := hide q1; clear q1
  have i1 := inB_iff.1 Q1.out.session.length
  by_cases q2 : inB f 0 x.fSession.fLength = true
  rotate_left
  · have q2' : inB f 0 x.fSession.fLength = false := (by simpa using q2)
    have HR := hide (show readF x f n = ([], 2) by unfold readF; rw [if_pos HQ.out, if_neg (fun h => q2 h.1)])
    go_wp2_with (go_at_call 74; refine (c_within _ _ _ _).mono ?_; rintro e w' ⟨rfl, rfl⟩)
    go_ret2
    exact ⟨_, _, by rw [HR.out]; rfl, rfl, by rw [HR.out]; exact OwI.nil_ _ _ _, HB1.out⟩
  have i2 := inB_iff.1 q2
  have e0 : IntKind.i64.wrap (x.fSession.fLength - f) = x.fSession.fLength - f := IntWalk.i64_in _ (by omega)
  by_cases q3 : inB n 0 (x.fSession.fLength - f) = true
  rotate_left
  · have q3' : inB n 0 (x.fSession.fLength - f) = false := (by simpa using q3)
    have HR := hide (show readF x f n = ([], 2) by unfold readF; rw [if_pos HQ.out, if_neg (fun h => q3 h.2)])
    go_wp2_with (go_at_call 74; refine (c_within _ _ _ _).mono ?_; rintro e w' ⟨rfl, rfl⟩)
    go_ret2
    exact ⟨_, _, by rw [HR.out]; rfl, rfl, by rw [HR.out]; exact OwI.nil_ _ _ _, HB1.out⟩
  have i3 := inB_iff.1 q3
  have HR0 := hide (show readF x f n = if tf (DirtyIn x f n) = true then ([], 6) else (cutL x.fMix f n.toNat, 0) by unfold readF; rw [if_pos HQ.out, if_pos ⟨q2, q3⟩])
  go_wp2_with (go_at_call 74; refine (c_within _ _ _ _).mono ?_; rintro e w' ⟨rfl, rfl⟩)
  clear ka la
  go_loopw [8] (fun i wr => ∃ k : Int, f ≤ k ∧ k ≤ f + n ∧ i = .int .i64 k ∧ (∀ j : Int, f ≤ j → j < k → ¬ j / 16 ∈ x.fDirty) ∧ Below w1.heap.size w1 wr) (fun i _ => (f + n - intOf i).toNat)
  case atStart => exact ⟨f, by omega, by omega, rfl, fun j h1 h2 => by omega, Below.refl _ _⟩
  case round =>
    obtain ⟨k, hk0, hk1, rfl, hno, hbw⟩ := hrel
    have HNO := hide hno; have HW := hide hbw; have HB := hide (bthen HB1.out HB1.out.size hbw); have HK := hide (HK1.out.below hbw HK1.out.lt); clear hno hbw
    have ka := HK.out.cell; have la := HK.out.lt
    have e1 : IntKind.i64.wrap (f + n) = f + n := IntWalk.i64_in _ (by omega)
    have e2 : IntKind.i64.wrap (k + 1) = k + 1 := IntWalk.i64_in _ (by omega)
    by_cases hlt : k < f + n
    rotate_left
    · have HR := hide (show readF x f n = (cutL x.fMix f n.toNat, 0) by
        rw [HR0.out, if_neg (by rw [tf_no (fun ⟨i, a, b, c⟩ => HNO.out i a (by omega) c)]; simp)])
      obtain ⟨nn, rfl⟩ : ∃ nn : Nat, n = (nn : Int) := ⟨n.toNat, by omega⟩
      go_wp2_with fail
      refine (c_slice _ x.fMix f nn _ (by omega) (by omega) (by omega) (Rd.below R6.out HB.out)).mono ?_; rintro e w5 ⟨v5, rfl, ho5, hb5⟩
      have HO5 := hide ho5; have HB5 := hide (bthen HB.out HB.out.size hb5); clear ho5 hb5
      have hsz := HB.out.size
      go_wp2
      go_ret2
      exact ⟨_, _, by rw [HR.out]; rfl, rfl, by rw [HR.out]; exact HO5.out.more hsz, HB5.out⟩
    have hdv : k.tdiv 16 = k / 16 := Int.tdiv_eq_ediv_of_nonneg (by omega)
    cases q5 : decide (k / 16 ∈ x.fDirty)
    · have Q5 := hide (of_decide_eq_false q5)
      go_wp2_with (go_at_call 75; refine (c_has _ x.fDirty _ _ (Rd.below R7.out HB.out)).mono ?_; rintro e w' ⟨rfl, rfl⟩; rw [q5])
      go_roundw
      case rel => exact ⟨k + 1, by omega, by omega, by go_num, fun j h1 h2 => by
          by_cases e : j = k
          · subst e; exact Q5.out
          · exact HNO.out j h1 (by omega), HW.out⟩
      case measure => simp [intOf]; omega
    · have HR := hide (show readF x f n = ([], 6) by
        rw [HR0.out, if_pos (tf_yes ⟨k, hk0, hlt, of_decide_eq_true q5⟩)])
      go_wp2_with (go_at_call 75; refine (c_has _ x.fDirty _ _ (Rd.below R7.out HB.out)).mono ?_; rintro e w' ⟨rfl, rfl⟩; rw [q5])
      go_ret2
      exact ⟨_, _, by rw [HR.out]; rfl, rfl, by rw [HR.out]; exact OwI.nil_ _ _ _, HB.out⟩
end Go.Proofs.YtfifcnojkjjnkaaGreat
end
section
namespace Go.Proofs.YtfifcnojkjjnkaaGreat
open Go.RowKit
theorem cntL_bd {α : Type} {c : α → Nat} {B : Nat} : ∀ {xs : List α}, (∀ x ∈ xs, c x ≤ B) → cntL c xs ≤ xs.length * B
  | [], _ => by simp [cntL]
  | x :: r, h => by
    have h1 := h x (by simp)
    have h2 := cntL_bd (xs := r) (fun y hy => h y (by simp [hy]))
    simp only [cntL, List.length_cons, Nat.add_mul]
    omega
theorem cntL_le2 {α : Type} {c : α → Nat} {B N : Nat} {xs : List α} (h : ∀ x ∈ xs, c x ≤ B) (hl : xs.length ≤ N) : cntL c xs ≤ N * B :=
  Nat.le_trans (cntL_bd h) (Nat.mul_le_mul_right B hl)
theorem GTrack.cnt_le {x : GTrack} (h : x.small) : x.cnt ≤ 5242880 := by
  have b0 := cntL_le2 (c := GClip.cnt) (xs := x.fClips) (B := 5) (N := 1048576) (fun y _ => Nat.le_refl _) h
  unfold GTrack.cnt
  omega
theorem GNode.cnt_le {x : GNode} (h : x.small) : x.cnt ≤ 1048579 := by
  have b3 : x.fFrom.length ≤ 1048576 := h
  unfold GNode.cnt
  omega
theorem GPatch.cnt_le {x : GPatch} (h : x.small) : x.cnt ≤ 2199027449857 := by
  have b1 := cntL_le2 (c := List.length) (B := 1048576) (N := 1048576) h.1.2 h.1.1
  have b2 := cntL_le2 (c := GNode.cnt) (B := 1048579) (N := 1048576) (fun y hy => GNode.cnt_le (h.2.1.2 y hy)) h.2.1.1
  have b3 : x.fOutputs.length ≤ 1048576 := h.2.2
  unfold GPatch.cnt
  omega
theorem GStrip.cnt_le {x : GStrip} (h : x.small) : x.cnt ≤ 2097154 := by
  have b2 := cntL_le2 (c := GSend.cnt) (xs := x.fSends) (B := 2) (N := 1048576) (fun y _ => Nat.le_refl _) h.2
  unfold GStrip.cnt
  omega
theorem GCache.cntv_le {x : GCache} (h : x.small) : x.cntv ≤ 4611686018000000000 := by
  have b1 := cntL_le2 (c := List.length) (B := 1048576) (N := 1048576) h.1.2 h.1.1
  have b2 := cntL_le2 (c := GTrack.cnt) (B := 5242880) (N := 1048576) (fun y hy => GTrack.cnt_le (h.2.1.2 y hy)) h.2.1.1
  have b3 : x.fSession.fFeeds.length ≤ 1048576 := h.2.2.1
  have b4 := cntL_le2 (c := GPatch.cnt) (B := 2199027449857) (N := 1048576) (fun y hy => GPatch.cnt_le (h.2.2.2.1.2 y hy)) h.2.2.2.1.1
  have b5 := cntL_le2 (c := GStrip.cnt) (B := 2097154) (N := 1048576) (fun y hy => GStrip.cnt_le (h.2.2.2.2.1.2 y hy)) h.2.2.2.2.1.1
  have b6 : x.fMix.length ≤ 1048576 := h.2.2.2.2.2.1
  have b7 : x.fDirty.length ≤ 1048576 := h.2.2.2.2.2.2
  simp only [GCache.cntv, GSession.cntv, GMixer.cntv]
  omega
theorem bo_toCache (x : GCache) (cs : List Value) (w : World) (hs : x.small) (h : T.rds w x.fs cs) : Calls Tryz.prog 18 #[.agg cs.toArray] w fun e w' => ∃ ds F, e = .returned (.agg ds.toArray) ∧ Nw w w' x.fs F ds := by
  obtain ⟨v1, v2, v3, v4, v5, v6, v7, rfl, h1, h2, h3, h4, h5, h6, h7⟩ := GCache.rd_open h
  refine (c_toCache x _ _ _ _ _ _ _ w hs h1 h2 h3 h4 h5 h6 h7).mono ?_
  rintro e w' ⟨u1, F1, u2, F2, u3, F3, u4, F4, u5, F5, u6, F6, u7, F7, rfl, o1, o2, o3, o4, o5, o6, o7, sg, hb⟩
  have ha := sg.all
  simp only [List.flatten_cons, List.flatten_nil] at ha
  exact ⟨_, _, rfl, GCache.ow_mk o1 o2 o3 o4 o5 o6 o7, ha.1, fun b hb => (ha.2 b hb).1, hb⟩
theorem bo_markCache (x : GCache) (cs : List Value) (F : List Nat) (m : Nat) (w : World) (h0 : 0 < m) (hm : m + x.cntv ≤ 4611686018427387904) (h : T.ows w x.fs F cs) (hn : F.Nodup) : Calls Tryz.prog 24 #[.agg cs.toArray, .int .i64 (m : Int)] w fun e w' => e = .returned (.int .i64 ((m + x.cntv : Nat) : Int)) ∧ T.ows w' (x.mkv m).fs F cs ∧ Trn F w w' := by
  obtain ⟨v1, v2, v3, v4, v5, v6, v7, F1, F2, F3, F4, F5, F6, F7, rfl, rfl, h1, h2, h3, h4, h5, h6, h7⟩ := GCache.ow_open h
  refine (c_markCache x _ _ _ _ _ _ _ _ _ _ _ _ _ _ m w h0 hm h1 h2 h3 h4 h5 h6 h7 hn).mono ?_
  rintro e w' ⟨rfl, o1, o2, o3, o4, o5, o6, o7, ht⟩
  exact ⟨rfl, GCache.ow_mk (x := x.mkv m) o1 o2 o3 o4 o5 o6 o7, ht⟩
end Go.Proofs.YtfifcnojkjjnkaaGreat
end
