/- Contracts: what is valid, by the program: kinds, nodes. -/
import Derived.Test.YtfifcnojkjjnkaaGreatEi
import Derived.Deep.RegionWith
namespace Go.Proofs.YtfifcnojkjjnkaaGreat
open Go.RowKit
def kndNames : List (List UInt8) := [[105, 110, 112, 117, 116], [99, 111, 110, 115, 116], [97, 100, 100], [115, 117, 98], [103, 97, 105, 110], [100, 101, 108, 97, 121], [115, 117, 109], [100, 105, 102, 102], [109, 117, 108], [115, 104, 105, 102, 116], [99, 108, 105, 112], [112, 104, 97, 115, 101], [116, 97, 98, 108, 101], [110, 111, 105, 115, 101], [115, 101, 108, 101, 99, 116], [104, 111, 108, 100], [99, 111, 109, 98]]
def kndName (i : Nat) : ByteArray := ⟨(kndNames.getD i []).toArray⟩
def kndCells : Array Value := #[.string ⟨#[105, 110, 112, 117, 116]⟩, .int .i64 0, .int .i64 0, .int .i64 3, .bool true, .bool false, .string ⟨#[99, 111, 110, 115, 116]⟩, .int .i64 0, .int .i64 (-2147483648), .int .i64 2147483647, .bool false, .bool false, .string ⟨#[97, 100, 100]⟩, .int .i64 2, .int .i64 1, .int .i64 0, .bool true, .bool false, .string ⟨#[115, 117, 98]⟩, .int .i64 2, .int .i64 1, .int .i64 0, .bool true, .bool false, .string ⟨#[103, 97, 105, 110]⟩, .int .i64 1, .int .i64 (-2147483648), .int .i64 2147483647, .bool true, .bool false, .string ⟨#[100, 101, 108, 97, 121]⟩, .int .i64 1, .int .i64 1, .int .i64 16, .bool true, .bool false, .string ⟨#[115, 117, 109]⟩, .int .i64 1, .int .i64 1, .int .i64 0, .bool true, .bool false, .string ⟨#[100, 105, 102, 102]⟩, .int .i64 1, .int .i64 1, .int .i64 0, .bool true, .bool false, .string ⟨#[109, 117, 108]⟩, .int .i64 2, .int .i64 1, .int .i64 0, .bool false, .bool false, .string ⟨#[115, 104, 105, 102, 116]⟩, .int .i64 1, .int .i64 0, .int .i64 31, .bool false, .bool false, .string ⟨#[99, 108, 105, 112]⟩, .int .i64 1, .int .i64 0, .int .i64 2147483647, .bool false, .bool false, .string ⟨#[112, 104, 97, 115, 101]⟩, .int .i64 1, .int .i64 (-2147483648), .int .i64 2147483647, .bool false, .bool false, .string ⟨#[116, 97, 98, 108, 101]⟩, .int .i64 1, .int .i64 0, .int .i64 3, .bool false, .bool false, .string ⟨#[110, 111, 105, 115, 101]⟩, .int .i64 0, .int .i64 (-2147483648), .int .i64 2147483647, .bool false, .bool false, .string ⟨#[115, 101, 108, 101, 99, 116]⟩, .int .i64 3, .int .i64 1, .int .i64 0, .bool false, .bool false, .string ⟨#[104, 111, 108, 100]⟩, .int .i64 2, .int .i64 1, .int .i64 0, .bool false, .bool false, .string ⟨#[99, 111, 109, 98]⟩, .int .i64 1, .int .i64 (-2147483648), .int .i64 2147483647, .bool true, .bool true]
set_option maxHeartbeats 2000000 in
set_option maxRecDepth 20000 in
theorem c_kinds (w : World) : Calls Tryz.prog 295 #[] w fun e w' => e = .returned (.slice (some ⟨w.heap.size, 0, none⟩) 17 17) ∧ w' = w.alloc (.cells kndCells 336) := by
  go_enter Tryz.func295, Tryz.ntmps295
  go_wp2
  go_ret
  exact ⟨rfl, rfl⟩
theorem kndCells_at {i : Nat} (h : i < 17) : kndCells[i * 6]? = some (.string (kndName i)) ∧ kndCells[i * 6 + 1]? = some (.int .i64 (kndL.getD i ⟨0, 0, 0, false, false⟩).inputs) ∧ kndCells[i * 6 + 2]? = some (.int .i64 (kndL.getD i ⟨0, 0, 0, false, false⟩).low) ∧ kndCells[i * 6 + 3]? = some (.int .i64 (kndL.getD i ⟨0, 0, 0, false, false⟩).high) ∧ kndCells[i * 6 + 4]? = some (.bool (kndL.getD i ⟨0, 0, 0, false, false⟩).linear) ∧ kndCells[i * 6 + 5]? = some (.bool (kndL.getD i ⟨0, 0, 0, false, false⟩).hasB) := by
  have : i = 0 ∨ i = 1 ∨ i = 2 ∨ i = 3 ∨ i = 4 ∨ i = 5 ∨ i = 6 ∨ i = 7 ∨ i = 8 ∨ i = 9 ∨ i = 10 ∨ i = 11 ∨ i = 12 ∨ i = 13 ∨ i = 14 ∨ i = 15 ∨ i = 16 := by omega
  rcases this with rfl | rfl | rfl | rfl | rfl | rfl | rfl | rfl | rfl | rfl | rfl | rfl | rfl | rfl | rfl | rfl | rfl
  all_goals exact ⟨rfl, rfl, rfl, rfl, rfl, rfl⟩
theorem c_isKind (n : Int) (w : World) : Calls Tryz.prog 294 #[.int .i64 n] w fun e w' => e = .returned (.bool (inB n 1 17)) ∧ w = w' := by
  go_enter Tryz.func294, Tryz.ntmps294
  go_wp2_with (go_at_call 74; refine (c_within _ _ _ _).mono ?_; rintro e w' ⟨rfl, rfl⟩)
  go_ret
  exact ⟨rfl, rfl⟩
theorem c_hasA (s : ByteArray) (a lo hi : Int) (l hb : Bool) (w : World) : Calls Tryz.prog 296 #[.agg #[.string s, .int .i64 a, .int .i64 lo, .int .i64 hi, .bool l, .bool hb]] w fun e w' => e = .returned (.bool (decide (lo ≤ hi))) ∧ Below w.heap.size w w' := by
  have HB := hide (show Below w.heap.size w (w.alloc (.cells #[.string s, .int .i64 a, .int .i64 lo, .int .i64 hi, .bool l, .bool hb] 336)) from (Below.refl _ _).alloc (Nat.le_refl _) _)
  go_enter Tryz.func296, Tryz.ntmps296
  go_wp2
  go_ret
  exact ⟨rfl, HB.out⟩
end Go.Proofs.YtfifcnojkjjnkaaGreat
