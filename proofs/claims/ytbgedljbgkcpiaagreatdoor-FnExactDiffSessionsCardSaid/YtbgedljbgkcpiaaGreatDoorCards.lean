/-
  DERIVED. GIVEN WITH THE SEED: THE CARDS: each row of YtbgedljbgkcpiaaGreatDoorRows.lean that lists a variable, with what it lists TIED to the program's text (the seventh form; the later family's looks); each row that meets fmt, with fmt's text TOLD by the authors' own Lean function (tested against real Go, not proved from fmt's source: count such statements apart). THE CARD IS WHAT COUNTS. Prove the row's statement (the work); the ties are given (YtbgedljbgkcpiaaGreatDoorTie.lean); close each card by the builder's one call (the guide's Derived/Test/ToyasCard.lean, 'card_holds'). Laid BY PROGRAM, IN A SANDBOX (cutbox-door.mjs). By AI agents, Wed Nov 11 2026. No macro, syntax, notation, axiom, sorry.
-/
import Derived.Test.YtbgedljbgkcpiaaGreatDoorRows
import GoSem.ClaimSeven
namespace Go.Proofs.YtbgedljbgkcpiaaGreatDoor
namespace Rows

/-- THE TIED CARD OF 'laws.FnExactDiffSessions'. -/
def fnExactDiffSessionsCard : Claim7 := { stood := { row := fnExactDiffSessionsRow, standIns := [], harness := (true, "d652fad26b3d6069962d69c52e2dc6eb51dec87b9f0487dfd6d58f93948a41f8"), looks := false }, kinds := [], alts := [], laidByText := true, laidKinds := [.data, .data, .data, .data, .pinned], laidTests := true, laidLooks := .later }
def FnExactDiffSessionsCardSaid : Prop := Claim7.holds Tryz.pinned (.plain (OpenSpec.ofChange fnExactDiffSessionsSpec)) fnExactDiffSessionsCard

/-- THE SECOND FORM's CARD OF 'laws.FnExactDiffSessions'. -/
def fnExactDiffSessionsUptoCard : Claim7 := { stood := { row := fnExactDiffSessionsUptoRow, standIns := [], harness := (true, "d652fad26b3d6069962d69c52e2dc6eb51dec87b9f0487dfd6d58f93948a41f8"), looks := false }, kinds := [], alts := [], laidByText := true, laidKinds := [.data, .data, .data, .data, .pinned], laidTests := true, laidLooks := .later }
def FnExactDiffSessionsUptoCardSaid : Prop := Claim7.holds Tryz.pinned (.plain (OpenSpec.upto fnExactDiffSessionsSpec)) fnExactDiffSessionsUptoCard
end Rows
end Go.Proofs.YtbgedljbgkcpiaaGreatDoor
