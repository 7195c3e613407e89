/- Contracts: changes that are valid. -/
import Derived.Test.YtjbcanihpcfncaaDoorAa
import Derived.Test.YtjbcanihpcfncaaDoorUa
namespace Go.Proofs.YtjbcanihpcfncaaDoor
open Go.RowKit
set_option maxHeartbeats 400000 in
theorem c_eqChange (c d : Chg) (w : World) :
    Calls Tryd.prog 18 #[.agg #[.int .i64 c.k, .int .i64 c.p, .string c.t], .agg #[.int .i64 d.k, .int .i64 d.p, .string d.t]] w fun e w' => e = .returned (.bool (decide (c = d))) ∧ Below w.heap.size w w' := by
  go_enter Tryd.func18, Tryd.ntmps18
  go_wp2
  all_goals go_ret
  all_goals refine ⟨?_, ((Below.refl _ _).alloc (Nat.le_refl _) _).alloc (by simp) _⟩
  all_goals refine ret_bool ?_
  all_goals (obtain ⟨k1, p1, t1⟩ := c; obtain ⟨k2, p2, t2⟩ := d; simp_all [Chg.mk.injEq, str_eq])

/-- The room that is left by a list of changes; -1 where it does not suffice. -/
def roomF : Int → List Chg → Int
  | n, [] => n
  | n, c :: r => if n < c.t.size then -1 else roomF (n - c.t.size) r
theorem roomF_bd (cs : List Chg) : ∀ n : Int, 0 ≤ n → -1 ≤ roomF n cs ∧ roomF n cs ≤ n := by
  induction cs with
  | nil => intro n h; simp [roomF]; omega
  | cons c r ih =>
    intro n h
    simp only [roomF]
    split
    · omega
    · have := ih (n - c.t.size) (by omega); omega
end Go.Proofs.YtjbcanihpcfncaaDoor
