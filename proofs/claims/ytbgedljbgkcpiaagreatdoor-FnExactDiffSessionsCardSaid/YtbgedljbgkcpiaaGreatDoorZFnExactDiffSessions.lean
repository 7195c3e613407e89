/- The law FnExactDiffSessions: for every input it returns true, and its arguments read afterwards as before. No condition. -/
import Derived.Test.YtbgedljbgkcpiaaGreatDoorQBkExactDiffSessions
import Derived.Test.YtbgedljbgkcpiaaGreatDoorQBiExactDiffSessions
import Derived.WalkKit
import Derived.ProofKit
import Derived.OpenShut
import Derived.ShutString
import Derived.ChangeOld
import Derived.Below
import Derived.LaidMore
import Derived.Lay
import Derived.SevenTiedAt
import Derived.Stop.Joined
import Derived.Test.YtbgedljbgkcpiaaGreatDoorCards
import Derived.Test.YtbgedljbgkcpiaaGreatDoorTie
namespace Go.Proofs.YtbgedljbgkcpiaaGreatDoor.fnExactDiffSessions
open Go.ChangeShapes Go.WideShapes Go.ChangeAt Go.RowKit
open Go.ChangeMaps (open_string shut_string)
set_option linter.unusedVariables false
theorem walk (g0 : GSession) (cs0 : List Value) (g1 : GSession) (cs1 : List Value) (w : World) (w0 : T.rds w g0.fs cs0 ∧ g0.good) (w1 : T.rds w g1.fs cs1 ∧ g1.good) (hL : laidMetH Tryz.prog Rows.fnExactDiffSessionsRow.laid w) :
    Calls Tryz.prog 3 #[.agg cs0.toArray, .agg cs1.toArray] w fun e w' => e = .returned (.bool true) ∧ Below w.heap.size w w' := by
  exact law_DiffSessions _ _ _ _ _ (tb_of_laidD hL) w0.1 w0.2 w1.1 w1.2
theorem door_met (os : Os) (args : Array Value) : laidMetH Tryz.prog Rows.fnExactDiffSessionsRow.laid ((World.laidAll Tryz.prog os Rows.fnExactDiffSessionsRow.laid).forCall (fun _ _ => 0) ⟨#[], args, []⟩).memory := by
  rw [MakeChecks.laidMetH_plain _ _ _ (by kernel_rfl)]; exact laidMet_laidAll _ (by kernel_rfl) (by kernel_rfl)
set_option maxRecDepth 100000 in
theorem lifted (os : Os) (started : os.Started) (H : Type) (enc : TypeId × Value → H) :
    ReturnsInHanded {} Tryz.checked os 3 .any (fun w args => (Rows.fnExactDiffSessionsSpec.pre enc Tryz.prog Tryz.f3 Rows.fnExactDiffSessionsRow.domain false w args ∧ laidMetH Tryz.prog Rows.fnExactDiffSessionsRow.laid w) ∧ sizedMet enc Tryz.prog Tryz.f3 (OpenSpec.ofChange Rows.fnExactDiffSessionsSpec) false w args)
      (Rows.fnExactDiffSessionsSpec.post enc Tryz.prog Tryz.f3 false true false false) := by
  refine returnsInHanded_of_change_and (C := Tryz.checked) (X := fun w _ => laidMetH Tryz.prog Rows.fnExactDiffSessionsRow.laid w) (fun _ _ _ hh h => h.of_heap hh) own_is started (by kernel_rfl) Tryz.func3
    (ChangeSpec.witness_shaped (enc := enc) (C := Tryz.checked) (os := os) (X := fun w _ => laidMetH Tryz.prog Rows.fnExactDiffSessionsRow.laid w) false (World.laidAll Tryz.prog os Rows.fnExactDiffSessionsRow.laid) #[.agg #[.int .i64 0, .slice none 0 0, .slice none 0 0, .slice none 0 0, .slice none 0 0, .slice none 0 0], .agg #[.int .i64 0, .slice none 0 0, .slice none 0 0, .slice none 0 0, .slice none 0 0, .slice none 0 0]] 8 (World.laidAll_os _ _ _)
      (World.shaped_of_ZipB (by kernel_rfl) (by kernel_rfl)) (by kernel_rfl) (by kernel_rfl) (by kernel_rfl) (door_met os _)) ?_
  intro W base args ds gs before hval0 hW hcnd _ hL _
  have hval : ∀ (j : Nat) t v, Tryz.f3.params[j]? = some t → args[j]? = some v → Value.okWide Tryz.prog W .any base t v := hval0
  have hW' := hW
  obtain ⟨p, q, hA0, hV, rfl, hfz, hnd⟩ := hW
  have hA : DataW.TrodAll enc Tryz.prog W 0 (fun _ => true) true Tryz.f3.params.toList args.toList ds p := hA0
  rw [Tryz.params3] at hA hval
  obtain ⟨v0, vs0, d0, ds0, p0, q0, hargs, rfl, rfl, h0, r0⟩ := trodAll_cons hA
  obtain ⟨v1, vs1, d1, ds1, p1, q1, rfl, rfl, rfl, h1, r1⟩ := trodAll_cons r0
  obtain ⟨rfl, rfl, rfl⟩ := trodAll_nil r1
  obtain rfl : args = #[v0, v1] := by cases args; simp_all
  obtain ⟨rfl, rfl⟩ := trodVars_none hV
  have k0 := h0
  have lt0 : ∀ x ∈ p0, x.block < W.heap.size := by obtain ⟨m, hm⟩ := k0; exact DataW.trod_lt m _ _ _ hm
  have k1 := h1
  have lt1 : ∀ x ∈ p1, x.block < W.heap.size := by obtain ⟨m, hm⟩ := k1; exact DataW.trod_lt m _ _ _ hm
  obtain ⟨c0, rfl, _⟩ := okWide_struct Tryz.underlying30 (hval 0 30 v0 rfl rfl)
  obtain ⟨c0⟩ := c0
  obtain ⟨g0, w0⟩ : ∃ g : GSession, T.rds W g.fs c0 ∧ g.good := by
    obtain ⟨fuel, hf⟩ := h0
    exact op_Session hf
  obtain ⟨c1, rfl, _⟩ := okWide_struct Tryz.underlying30 (hval 1 30 v1 rfl rfl)
  obtain ⟨c1⟩ := c1
  obtain ⟨g1, w1⟩ : ∃ g : GSession, T.rds W g.fs c1 ∧ g.good := by
    obtain ⟨fuel, hf⟩ := h1
    exact op_Session hf
  clear hA0 hval0
  refine (walk g0 c0 g1 c1 W w0 w1 hL).mono fun e W' ⟨he, bel⟩ => ?_
  subst he
  exact ⟨_, rfl, _, _, _, [], _, [], hW', trodAll_mk1 (shut_bool Tryz.underlying4 _), (trodAll_cons_mk (Below.trod laidOut_is (by kernel_rfl) (of_decide_eq_true (by kernel_rfl)) k0 bel lt0) (trodAll_cons_mk (Below.trod laidOut_is (by kernel_rfl) (of_decide_eq_true (by kernel_rfl)) k1 bel lt1) trodAll_mk0)), rfl, bel.frame _, fun h => by cases h⟩
theorem closed : joinedFacts Tryz.prog 3 Tryz.f3 Rows.fnExactDiffSessionsSpec Rows.fnExactDiffSessionsRow = true := by
  simp only [joinedFacts, mayEnter_is, liftsFinal_is, make_is]
  as_aux_lemma => kernel_rfl
theorem over : Rows.fnExactDiffSessionsRow.holds Tryz.pinned (OpenSpec.ofChange Rows.fnExactDiffSessionsSpec) :=
  OpenClaim.holds_of_wide 3 Tryz.f3 rfl rfl rfl rfl rfl rfl rfl ⟨rfl, rfl, rfl, rfl, rfl⟩ rfl rfl rfl rfl rfl (by kernel_rfl) Tryz.func3 closed
    (of_decide_eq_true (by kernel_rfl)) (by unfold Func.isWrapper; first | (rw [if_pos (by decide +kernel)]; kernel_rfl) | (rw [if_neg (by decide +kernel)]; exact ⟨rfl, rfl⟩))
    (fun os started H enc _ => lifted os started H enc)
theorem proved : Rows.FnExactDiffSessionsCardSaid :=
  Claim7.holds_tied_plain_at .later [] [.data, .data, .data, .data, .pinned] true (true, "d652fad26b3d6069962d69c52e2dc6eb51dec87b9f0487dfd6d58f93948a41f8") false
    over (fun _ h => by cases h) (by kernel_rfl) (fun _ h => by cases h) fnExactDiffSessions_row_tie rfl ⟨rfl, rfl⟩ (by kernel_rfl) rfl
    (fun f fn hf hfn => by
      obtain rfl : f = 3 := Option.some.inj ((show Tryz.prog.funcNamed "loop.example/g00903/laws.FnExactDiffSessions" = some 3 by kernel_rfl).symm.trans hf) |>.symm
      obtain rfl : fn = Tryz.f3 := (Option.some.inj (Tryz.func3.symm.trans hfn)).symm
      exact ⟨by kernel_rfl, fun j t ht => by
        rw [Tryz.params3] at ht
        have hm : t ∈ [30, 30] := by simpa using Array.mem_of_getElem? ht
        have hall : ([30, 30].all fun u => !Tryz.prog.wantsStandIn u) = true := by kernel_rfl
        exact (show Tryz.prog.wantsStandIn t = false by simpa using List.all_eq_true.1 hall t hm)⟩)
    (by kernel_rfl)
end Go.Proofs.YtbgedljbgkcpiaaGreatDoor.fnExactDiffSessions
