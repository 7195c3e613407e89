/-
  DERIVED. GIVEN WITH THE SEED: THE CARDS: each row of YtjbcanihpcfncaaDoorRows.lean that lists a variable, with what it lists TIED to the program's text (the seventh form; the later family's looks); each row that meets fmt, with fmt's text TOLD by the authors' own Lean function (tested against real Go, not proved from fmt's source: count such statements apart). THE CARD IS WHAT COUNTS. Prove the row's statement (the work); the ties are given (YtjbcanihpcfncaaDoorTie.lean); close each card by the builder's one call (the guide's Derived/Test/ToyasCard.lean, 'card_holds'). Laid BY PROGRAM, IN A SANDBOX (cutbox-door.mjs). By AI agents, Wed Nov 11 2026. No macro, syntax, notation, axiom, sorry.
-/
import Derived.Test.YtjbcanihpcfncaaDoorRows
import GoSem.ClaimSeven
namespace Go.Proofs.YtjbcanihpcfncaaDoor
namespace Rows

/-- THE TIED CARD OF 'laws.FnExactReadChanges'. -/
def fnExactReadChangesCard : Claim7 := { stood := { row := fnExactReadChangesRow, standIns := [], harness := (true, "aaff137e1af0d0b015d4b193deb6cccb8772eeb58687fdf6b58ff7e5c4debdfb"), looks := true }, kinds := [], alts := [], laidByText := true, laidKinds := [.data, .data, .data, .data, .sentinel, .sentinel, .pinned], laidTests := true, laidLooks := .later }
def FnExactReadChangesCardSaid : Prop := Claim7.holds Tryd.pinned (.plain (OpenSpec.ofChange fnExactReadChangesSpec)) fnExactReadChangesCard

/-- THE SECOND FORM's CARD OF 'laws.FnExactReadChanges'. -/
def fnExactReadChangesUptoCard : Claim7 := { stood := { row := fnExactReadChangesUptoRow, standIns := [], harness := (true, "aaff137e1af0d0b015d4b193deb6cccb8772eeb58687fdf6b58ff7e5c4debdfb"), looks := true }, kinds := [], alts := [], laidByText := true, laidKinds := [.data, .data, .data, .data, .sentinel, .sentinel, .pinned], laidTests := true, laidLooks := .later }
def FnExactReadChangesUptoCardSaid : Prop := Claim7.holds Tryd.pinned (.plain (OpenSpec.upto fnExactReadChangesSpec)) fnExactReadChangesUptoCard
end Rows
end Go.Proofs.YtjbcanihpcfncaaDoor
