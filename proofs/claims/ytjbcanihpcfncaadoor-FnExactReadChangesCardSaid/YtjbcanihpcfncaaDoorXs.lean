/- A law of the model: the bytes of a string appended to a slice of bytes of the call's own. No program is named here. -/
import Derived.Test.YtjbcanihpcfncaaDoorLb
namespace Go.Proofs.YtjbcanihpcfncaaDoor
open Go.RowKit
def byV (s : ByteArray) : List Value := s.data.toList.map fun b => Value.int .u8 (b.toNat : Int)
theorem byV_len (s : ByteArray) : (byV s).length = s.size := by simp [byV]
theorem first_str {P : Program} (w : World) (s : ByteArray) : (Builtin.firstCells 1 s.size (.string s)).run P w = .ok (byV s).toArray w := by
  simp only [Builtin.firstCells]
  have : (s.extract 0 s.size).data.map (fun b : UInt8 => Value.int .u8 (b.toNat : Int)) = (byV s).toArray := by
    rw [ByteArray.extract_zero_size]
    apply Array.ext'
    simp [byV]
  show Result.ok _ w = _
  rw [this]
theorem append_own_str {P : Program} {w : World} (base : Nat) (t u ty e : TypeId) (i : TypeInfo) (z : Value) (ht : P.underlying t = some (.slice e)) (hu : P.underlying u = some .string) (hi : P.info? e = some i) (hz : i.zero = some z)
    (hsize : i.size = 1) (hby : i.bytes = 1) (hzs : z.cells.size = 1) (v : Value) (n : Nat) (xs : List Value) (hown : w.ownsRow base e 1 v n xs) (s : ByteArray)
    (hbytes : n + s.size ≤ 140737488355328) (hbase : base ≤ w.heap.size) :
    ∃ v' w', (Builtin.append_ #[t, u] ty #[v, .string s]).run P w = .ok v' w' ∧ w'.ownsRow base e 1 v' (n + s.size) (xs ++ byV s) ∧ w.grownBy w' v.ownBlock ∧ (v'.ownBlock = v.ownBlock ∨ v'.ownBlock = some w.heap.size) := by
  have hlen : (xs ++ byV s).length = (n + s.size) * 1 := by rw [List.length_append, hown.1, byV_len]; omega
  have h1 : ∀ u ∈ byV s, u.oneCell' = true := by
    intro x hx
    simp only [byV, List.mem_map] at hx
    obtain ⟨b, _, rfl⟩ := hx
    rfl
  have grown : ∀ (old : Nat), old < n + s.size → ∀ (row : Option Nat),
      (w.drew.alloc (.cells (xs.toArray ++ (byV s).toArray ++ Builtin.zeroCells z.cells (grownCap w (n + s.size) old e - (n + s.size))) e)).ownsRow base e 1
        (.slice (some ⟨w.heap.size, 0, none⟩) (n + s.size) (grownCap w (n + s.size) old e)) (n + s.size) (xs ++ byV s) ∧
      w.grownBy (w.drew.alloc (.cells (xs.toArray ++ (byV s).toArray ++ Builtin.zeroCells z.cells (grownCap w (n + s.size) old e - (n + s.size))) e)) row := by
    intro old ho row
    have hge := grownCap_ge w (n + s.size) old e
    have hcm : grownCap w (n + s.size) old e ≤ maxLen := grownCap_le_maxLen w (n + s.size) old e (by unfold maxLen; omega)
    refine ⟨⟨hlen, .inr ⟨w.heap.size, _, _, rfl, hbase, heap_alloc_new w.drew _, hge, hcm, ?_, ?_⟩⟩, ⟨rfl, rfl, rfl, by simp, fun k hk _ => Below.heap_alloc w.drew _ k hk⟩⟩
    · simp only [Array.size_append, List.size_toArray, size_zeroCells, hzs, hown.1, byV_len]
      omega
    · simp only [Array.toList_append, List.append_assoc]
      rw [← List.append_assoc, ← hlen]
      exact List.take_left
  rcases hown.2 with ⟨rfl, rfl⟩ | ⟨g, cap, cur, rfl, hbg, hg, hnc, hcm, hcs, htake⟩
  · have hx : xs = [] := List.eq_nil_of_length_eq_zero (by simpa using hown.1)
    subst hx
    by_cases hm : s.size = 0
    · have hs : byV s = [] := List.eq_nil_of_length_eq_zero (by rw [byV_len]; exact hm)
      refine ⟨.slice none 0 0, w, ?_, ?_, ⟨rfl, rfl, rfl, Nat.le_refl _, fun _ _ _ => rfl⟩, Or.inl rfl⟩
      · have hf := first_str (P := P) w s
        rw [hs, hm] at hf
        simp [Builtin.append_, run_underlying ht, run_underlying hu, sizeOf, typeInfo, hi, Builtin.lenOf, hm, hsize, hf]
      · rw [hs, hm]; exact World.ownsRow_nil w base e 1
    · have hf := first_str (P := P) w.drew s
      have h63' : ¬ (9223372036854775807 < (s.size : Int)) := by omega
      have h48' : ¬ (281474976710656 < Builtin.nextslicecap s.size 0 * i.bytes) := by rw [nextslicecap_zero (by omega), hby]; omega
      have hgr := grown 0 (by omega) (Value.ownBlock (.slice none 0 0))
      simp only [Nat.zero_add, List.nil_append, Array.empty_append] at hgr ⊢
      refine ⟨_, _, ?_, hgr.1, hgr.2, Or.inr rfl⟩
      simp [Builtin.append_, run_underlying ht, run_underlying hu, sizeOf, typeInfo, zeroValue, hi, hz, Builtin.lenOf, hm, h63', h48', Question.forced, run_firstCells_none, hf, newRow, grownCap, hsize]
  · by_cases hroom : n + s.size ≤ cap
    · have hf := first_str (P := P) w s
      have hfit : n * 1 + (byV s).length ≤ cur.size := by rw [byV_len, hcs]; omega
      have hst := run_storeCells_at P g (n * 1) e (byV s) 0 cur w hg (by simpa using hfit) h1
      simp only [Nat.add_zero] at hst
      refine ⟨.slice (some ⟨g, 0, none⟩) (n + s.size) cap, w.setRow g (cur.toList.take (n * 1) ++ byV s ++ cur.toList.drop (n * 1 + (byV s).length)).toArray, ?_, ⟨hlen, .inr ⟨g, cap, _, rfl, hbg, setRow_heap w g cur _ e _ hg, hroom, hcm, ?_, ?_⟩⟩, ⟨rfl, rfl, rfl, by simp, fun k _ hk => setRow_other w g k _ (fun e => hk (by simp [Value.ownBlock, e]))⟩, Or.inl rfl⟩
      · simp only [Nat.mul_one] at hst ⊢
        simp [Builtin.append_, run_underlying ht, run_underlying hu, sizeOf, typeInfo, hi, Builtin.lenOf, hroom, hf, Addr.add_lit, hst, hsize]
      · simp only [List.size_toArray, List.length_append, List.length_take, List.length_drop, Array.length_toList]
        omega
      · rw [htake, ← hlen]
        exact List.take_left
    · have holds : ∀ j u, xs[j]? = some u → w.cell? ((⟨g, 0, none⟩ : Addr).add j) = some u := World.ownsRow.cells hown (g := g) rfl
      have hfo := run_firstCells_some (P := P) w.drew 1 n ⟨g, 0, none⟩ n cap xs hown.1 (by simpa using holds)
      have hf := first_str (P := P) w.drew s
      have h63' : ¬ (9223372036854775807 < ((n : Int) + (s.size : Int))) := by omega
      have h48' : ¬ (281474976710656 < Builtin.nextslicecap (n + s.size) cap * i.bytes) := by
        have := growslice_fits (need := n + s.size) (old := cap) (bytes := 1) (by omega) (by omega)
        rw [hby]; omega
      have hgr := grown cap (by omega) (Value.ownBlock (.slice (some ⟨g, 0, none⟩) n cap))
      refine ⟨_, _, ?_, hgr.1, hgr.2, Or.inr rfl⟩
      simp [Builtin.append_, run_underlying ht, run_underlying hu, sizeOf, typeInfo, zeroValue, hi, hz, Builtin.lenOf, hroom, h63', h48', Question.forced, hf, hfo, newRow, grownCap, hsize]
      try (congr 2; apply Array.ext'; simp [List.append_assoc])
/-- append of a string's bytes to a slice of bytes of the call's own, in a walk. -/
theorem app_string {P : Program} {w : World} {ops : Array Oper} {rest : List Oper} {o : Oper} {a : Act} {Q : Exit → Act → World → Prop} (hgd : o.guard = none) (s x : Operand) (t u : TypeId)
    (ho : o.op = .call { callee := .builtin .append, args := #[s, x], argTypes := #[t, u] })
    (base : Nat) (e : TypeId) (z : Value) (ht : P.underlying t = some (.slice e)) (hu : P.underlying u = some .string) (hinfo : (P.info? e).map (fun i => (i.zero, i.size, i.bytes)) = some (some z, 1, 1)) (hzs : z.cells.size = 1)
    (v : Value) (xs : List UInt8) (hs : a.eval s = v) (hown : OwY e w base v xs) (y : ByteArray) (hx : a.eval x = .string y)
    (hl : xs.length + y.size ≤ 140737488355328) (hbase : base ≤ w.heap.size)
    (h : ∀ v' w', OwY e w' base v' (xs ++ y.data.toList) → w.grownBy w' v.ownBlock → (∀ k, v'.ownBlock = some k → v.ownBlock = some k ∨ w.heap.size ≤ k) → wpList P ops Q rest (a.put o.dst v') w') :
    wpList P ops Q (o :: rest) a w := by
  obtain ⟨i0, hi, hz0, hz1, hz2⟩ := info_parts hinfo
  refine wpList_plain hgd fun K hK => ?_
  obtain ⟨v', w', hr, h2, h3, h5⟩ := append_own_str (P := P) base t u o.type e i0 z ht hu hi hz0 hz1 hz2 hzs v xs.length _ hown y hl hbase
  unfold Oper.wp execOp
  simp only [ho, resolve, invoke, builtin, Sem.run_bind, Sem.run_pure, Result.andThen_ok, List.map_toArray, List.map_cons, List.map_nil, hs, hx, hr]
  refine hK _ _ (h v' w' ?_ h3 fun k hk => ?_)
  · unfold OwY
    have e1 : (xs ++ y.data.toList).length = xs.length + y.size := by simp
    rw [e1, List.map_append]
    exact h2
  · rcases h5 with h5 | h5
    · exact .inl (h5 ▸ hk)
    · rw [h5] at hk; simp at hk; exact .inr (by omega)
end Go.Proofs.YtjbcanihpcfncaaDoor
