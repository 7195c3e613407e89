/- Contracts: bits as bytes. -/
import Derived.Test.YtpmflkoepnanoaaDoorCa
import Derived.Test.YtpmflkoepnanoaaDoorSh
namespace Go.Proofs.YtpmflkoepnanoaaDoor
open Go.RowKit
theorem info_u8 : (Tryd.prog.info? 5).map (fun i => (i.zero, i.size, i.bytes)) = some (some (.int .u8 0), 1, 1) := by kernel_rfl
theorem app1_u8 {w : World} {ops : Array Oper} {rest : List Oper} {o : Oper} {a : Act} {Q : Exit → Act → World → Prop} {x : Int} {n : UInt8} (hgd : o.guard = none) (s y : Operand)
    (ho : o.op = .call { callee := .builtin .append, args := #[s, y], argTypes := #[22, 22] }) {B : Nat} {v : Value} {xs : List UInt8} (hs : a.eval s = v) (hown : OwY 5 w B v xs)
    (hx : a.eval y = .slice (some ⟨w.heap.size, 0, none⟩) 1 1) (hn : x = (n.toNat : Int)) (hl : xs.length + 1 ≤ 140737488355328) (hB : B ≤ w.heap.size)
    (h : ∀ v' w', OwY 5 w' B v' (xs ++ [n]) → w.grownBy w' v.ownBlock → (∀ k, v'.ownBlock = some k → v.ownBlock = some k ∨ w.heap.size ≤ k) → wpList Tryd.prog ops Q rest (a.put o.dst v') w') :
    wpList Tryd.prog ops Q (o :: rest) a (w.alloc (.cells #[.int .u8 x] 5)) := by
  subst hn
  exact app_one hgd s y _ ho B _ _ 1 1 Tryd.underlying22 info_u8 rfl (by omega) v xs.length _ hs hown hx rfl (by simp [Value.oneCell']) (by omega) (by omega) hB
    fun v' w' h1 h2 h3 => h v' w' (by unfold OwY; simpa using h1) h2 h3
theorem oneCell_bytes (l : List UInt8) : ∀ u ∈ l.map (fun b => Value.int .u8 (b.toNat : Int)), u.oneCell' = true := by
  intro u hu
  obtain ⟨b, _, rfl⟩ := List.mem_map.1 hu
  rfl
theorem appm_u8 {w : World} {ops : Array Oper} {rest : List Oper} {o : Oper} {a : Act} {Q : Exit → Act → World → Prop} (hgd : o.guard = none) (s x : Operand)
    (ho : o.op = .call { callee := .builtin .append, args := #[s, x], argTypes := #[22, 22] }) {B : Nat} {v : Value} {xs : List UInt8} (hs : a.eval s = v) (hown : OwY 5 w B v xs)
    {y : Value} {ys : List UInt8} (hx : a.eval x = y) (hr : RdY w y ys) (hl : xs.length + ys.length ≤ 140737488355328) (hB : B ≤ w.heap.size)
    (h : ∀ v' w', OwY 5 w' B v' (xs ++ ys) → w.grownBy w' v.ownBlock → (∀ k, v'.ownBlock = some k → v.ownBlock = some k ∨ w.heap.size ≤ k) → wpList Tryd.prog ops Q rest (a.put o.dst v') w') :
    wpList Tryd.prog ops Q (o :: rest) a w :=
  app_many hgd s x _ ho B _ _ 1 1 Tryd.underlying22 info_u8 rfl (by omega) v xs.length _ hs hown y ys.length _ hx hr (oneCell_bytes _) (by omega) (by omega) hB
    fun v' w' h1 h2 h3 => h v' w' (by unfold OwY; simpa using h1) h2 h3
theorem new_u8 (w : World) : OwY 5 (w.alloc (.cells #[] 5)) w.heap.size (.slice (some ⟨w.heap.size, 0, none⟩) 0 0) [] := World.ownsRow_made w #[] 0 (Nat.le_refl _) (by decide) rfl
theorem str_of {w : World} {v : Value} {bs : List UInt8} (h : RdY w v bs) : (convert 22 9 v).run Tryd.prog w = .ok (.string (mkS bs)) w :=
  run_str Tryd.underlying22 Tryd.underlying5 Tryd.underlying9 h
set_option maxHeartbeats 400000 in
set_option maxRecDepth 100000 in
theorem c_digits (n : Int) (b : Nat) (w : World) (hn : 0 ≤ n ∧ n ≤ 9223372036854775807) (hb : b ≤ 62) : Calls Tryd.prog 93 #[.int .i64 n, .int .i64 (b : Int)] w fun e w' => e = .returned (.string (mkS (digL n b))) ∧ Below w.heap.size w w' := by
  go_enter Tryd.func93, Tryd.ntmps93
  go_wp2
  go_loopw [5, 6] (fun t i wr => ∃ (r : Nat) (l : List UInt8), r ≤ b ∧ i = .int .i64 ((r : Int) - 1) ∧ l ++ digL n r = digL n b ∧ l.length + r = b ∧ OwY 5 wr w.heap.size t l ∧ Below w.heap.size w wr) (fun _ i _ => (intOf i + 1).toNat)
  case atStart => exact ⟨b, [], Nat.le_refl _, rfl, rfl, by simp, new_u8 w, (Below.refl _ _).alloc (Nat.le_refl _) _⟩
  case round =>
    obtain ⟨r, l, hr, rfl, hl, hlen, ho, hbl⟩ := hrel
    have HL := hide hl; have HO := hide ho; have HB := hide hbl; have hsz := hbl.size; clear hl ho hbl
    cases r with
    | zero =>
      have hc := str_of HO.out.rd
      go_wp2
      go_ret
      exact ⟨ret_str (by have := HL.out; simp only [digL, List.append_nil] at this; rw [← this]), HB.out⟩
    | succ m =>
      have e0 : ((m + 1 : Nat) : Int) - 1 = (m : Int) := by omega
      have ha := and_1 (n / 2 ^ m)
      have HC := hide (bitC_nat n m)
      have hd : 0 ≤ n / 2 ^ m % 2 ∧ n / 2 ^ m % 2 ≤ 1 := by omega
      generalize hdd : n / 2 ^ m % 2 = d at *
      have HD := hide hdd; clear hdd
      rw [e0]
      go_wp2_with (at_builtin; refine app1_u8 (n := bitC n m) rfl _ _ rfl rfl HO.out rfl HC.out.symm (by omega) hsz ?_; intro v1 w1 ho1 hg1 hv1; have hb1 := below_own HB.out HO.out hg1 (Nat.le_refl _) hsz; have HO1 := hide ho1; have HB1 := hide hb1; clear ho1 hb1 hg1 hv1)
      go_roundw
      case rel => exact ⟨m, l ++ [bitC n m], by omega, rfl, by have := HL.out; simp only [digL] at this; rw [List.append_assoc]; exact this, by simp; omega, HO1.out, HB1.out⟩
      case measure => first | (simp [intOf]; done) | (simp [intOf]; omega)
end Go.Proofs.YtpmflkoepnanoaaDoor
