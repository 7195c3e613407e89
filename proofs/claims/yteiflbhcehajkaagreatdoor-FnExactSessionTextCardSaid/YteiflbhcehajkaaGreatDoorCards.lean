/-
  DERIVED. GIVEN WITH THE SEED: THE CARDS: each row of YteiflbhcehajkaaGreatDoorRows.lean that lists a variable, with what it lists TIED to the program's text (the seventh form; the later family's looks); each row that meets fmt, with fmt's text TOLD by the authors' own Lean function (tested against real Go, not proved from fmt's source: count such statements apart). THE CARD IS WHAT COUNTS. Prove the row's statement (the work); the ties are given (YteiflbhcehajkaaGreatDoorTie.lean); close each card by the builder's one call (the guide's Derived/Test/ToyasCard.lean, 'card_holds'). Laid BY PROGRAM, IN A SANDBOX (cutbox-door.mjs). By AI agents, Wed Nov 11 2026. No macro, syntax, notation, axiom, sorry.
-/
import Derived.Test.YteiflbhcehajkaaGreatDoorRows
import GoSem.ClaimSeven
namespace Go.Proofs.YteiflbhcehajkaaGreatDoor
namespace Rows

/-- THE TIED CARD OF 'laws.FnExactSessionText'. -/
def fnExactSessionTextCard : Claim7 := { stood := { row := fnExactSessionTextRow, standIns := [], harness := (true, "432e97c760b475d9aecfe5ffffa695e6824ca7530c21e6b00d4be30ebc2f7736"), looks := false }, kinds := [], alts := [], laidByText := true, laidKinds := [.data, .data, .data, .data, .pinned], laidTests := true, laidLooks := .later }
def FnExactSessionTextCardSaid : Prop := Claim7.holds Tryz.pinned (.plain (OpenSpec.ofChange fnExactSessionTextSpec)) fnExactSessionTextCard

/-- THE TIED CARD OF 'laws.FnExactDeskText'. -/
def fnExactDeskTextCard : Claim7 := { stood := { row := fnExactDeskTextRow, standIns := [], harness := (true, "432e97c760b475d9aecfe5ffffa695e6824ca7530c21e6b00d4be30ebc2f7736"), looks := false }, kinds := [], alts := [], laidByText := true, laidKinds := [.data, .data, .data], laidTests := true, laidLooks := .later }
def FnExactDeskTextCardSaid : Prop := Claim7.holds Tryz.pinned (.plain (OpenSpec.ofChange fnExactDeskTextSpec)) fnExactDeskTextCard

/-- THE SECOND FORM's CARD OF 'laws.FnExactSessionText'. -/
def fnExactSessionTextUptoCard : Claim7 := { stood := { row := fnExactSessionTextUptoRow, standIns := [], harness := (true, "432e97c760b475d9aecfe5ffffa695e6824ca7530c21e6b00d4be30ebc2f7736"), looks := false }, kinds := [], alts := [], laidByText := true, laidKinds := [.data, .data, .data, .data, .pinned], laidTests := true, laidLooks := .later }
def FnExactSessionTextUptoCardSaid : Prop := Claim7.holds Tryz.pinned (.plain (OpenSpec.upto fnExactSessionTextSpec)) fnExactSessionTextUptoCard

/-- THE SECOND FORM's CARD OF 'laws.FnExactDeskText'. -/
def fnExactDeskTextUptoCard : Claim7 := { stood := { row := fnExactDeskTextUptoRow, standIns := [], harness := (true, "432e97c760b475d9aecfe5ffffa695e6824ca7530c21e6b00d4be30ebc2f7736"), looks := false }, kinds := [], alts := [], laidByText := true, laidKinds := [.data, .data, .data], laidTests := true, laidLooks := .later }
def FnExactDeskTextUptoCardSaid : Prop := Claim7.holds Tryz.pinned (.plain (OpenSpec.upto fnExactDeskTextSpec)) fnExactDeskTextUptoCard
end Rows
end Go.Proofs.YteiflbhcehajkaaGreatDoor
