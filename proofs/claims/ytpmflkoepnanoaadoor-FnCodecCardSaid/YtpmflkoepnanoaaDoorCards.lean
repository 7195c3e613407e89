/-
  DERIVED. GIVEN WITH THE SEED: THE CARDS: each row of YtpmflkoepnanoaaDoorRows.lean that lists a variable, with what it lists TIED to the program's text (the seventh form; the later family's looks); each row that meets fmt, with fmt's text TOLD by the authors' own Lean function (tested against real Go, not proved from fmt's source: count such statements apart). THE CARD IS WHAT COUNTS. Prove the row's statement (the work); the ties are given (YtpmflkoepnanoaaDoorTie.lean); close each card by the builder's one call (the guide's Derived/Test/ToyasCard.lean, 'card_holds'). Laid BY PROGRAM, IN A SANDBOX (cutbox-door.mjs). By AI agents, Wed Nov 11 2026. No macro, syntax, notation, axiom, sorry.
-/
import Derived.Test.YtpmflkoepnanoaaDoorRows
import GoSem.ClaimSeven
namespace Go.Proofs.YtpmflkoepnanoaaDoor
namespace Rows

/-- THE TIED CARD OF 'laws.FnMergedTexts'. -/
def fnMergedTextsCard : Claim7 := { stood := { row := fnMergedTextsRow, standIns := [], harness := (true, "dc1f1c80fa80dd364991f7be8adb9e8f650eaea71e08fd65e93266345ac4cbfd"), looks := true }, kinds := [], alts := [], laidByText := true, laidKinds := [.data, .pinned], laidTests := true, laidLooks := .later }
def FnMergedTextsCardSaid : Prop := Claim7.holds Tryd.pinned (.plain (OpenSpec.ofChange fnMergedTextsSpec)) fnMergedTextsCard

/-- THE TIED CARD OF 'laws.FnExactMergeTexts'. -/
def fnExactMergeTextsCard : Claim7 := { stood := { row := fnExactMergeTextsRow, standIns := [], harness := (true, "dc1f1c80fa80dd364991f7be8adb9e8f650eaea71e08fd65e93266345ac4cbfd"), looks := true }, kinds := [], alts := [], laidByText := true, laidKinds := [.data, .pinned], laidTests := true, laidLooks := .later }
def FnExactMergeTextsCardSaid : Prop := Claim7.holds Tryd.pinned (.plain (OpenSpec.ofChange fnExactMergeTextsSpec)) fnExactMergeTextsCard

/-- THE TIED CARD OF 'laws.FnCodec'. -/
def fnCodecCard : Claim7 := { stood := { row := fnCodecRow, standIns := [], harness := (true, "dc1f1c80fa80dd364991f7be8adb9e8f650eaea71e08fd65e93266345ac4cbfd"), looks := true }, kinds := [], alts := [], laidByText := true, laidKinds := [.data, .pinned], laidTests := true, laidLooks := .later }
def FnCodecCardSaid : Prop := Claim7.holds Tryd.pinned (.plain (OpenSpec.ofChange fnCodecSpec)) fnCodecCard

/-- THE TIED CARD OF 'laws.FnExactReadChanges'. -/
def fnExactReadChangesCard : Claim7 := { stood := { row := fnExactReadChangesRow, standIns := [], harness := (true, "dc1f1c80fa80dd364991f7be8adb9e8f650eaea71e08fd65e93266345ac4cbfd"), looks := true }, kinds := [], alts := [], laidByText := true, laidKinds := [.data, .data, .data, .data, .sentinel, .sentinel, .pinned], laidTests := true, laidLooks := .later }
def FnExactReadChangesCardSaid : Prop := Claim7.holds Tryd.pinned (.plain (OpenSpec.ofChange fnExactReadChangesSpec)) fnExactReadChangesCard

/-- THE SECOND FORM's CARD OF 'laws.FnMergedTexts'. -/
def fnMergedTextsUptoCard : Claim7 := { stood := { row := fnMergedTextsUptoRow, standIns := [], harness := (true, "dc1f1c80fa80dd364991f7be8adb9e8f650eaea71e08fd65e93266345ac4cbfd"), looks := true }, kinds := [], alts := [], laidByText := true, laidKinds := [.data, .pinned], laidTests := true, laidLooks := .later }
def FnMergedTextsUptoCardSaid : Prop := Claim7.holds Tryd.pinned (.plain (OpenSpec.upto fnMergedTextsSpec)) fnMergedTextsUptoCard

/-- THE SECOND FORM's CARD OF 'laws.FnExactMergeTexts'. -/
def fnExactMergeTextsUptoCard : Claim7 := { stood := { row := fnExactMergeTextsUptoRow, standIns := [], harness := (true, "dc1f1c80fa80dd364991f7be8adb9e8f650eaea71e08fd65e93266345ac4cbfd"), looks := true }, kinds := [], alts := [], laidByText := true, laidKinds := [.data, .pinned], laidTests := true, laidLooks := .later }
def FnExactMergeTextsUptoCardSaid : Prop := Claim7.holds Tryd.pinned (.plain (OpenSpec.upto fnExactMergeTextsSpec)) fnExactMergeTextsUptoCard

/-- THE SECOND FORM's CARD OF 'laws.FnCodec'. -/
def fnCodecUptoCard : Claim7 := { stood := { row := fnCodecUptoRow, standIns := [], harness := (true, "dc1f1c80fa80dd364991f7be8adb9e8f650eaea71e08fd65e93266345ac4cbfd"), looks := true }, kinds := [], alts := [], laidByText := true, laidKinds := [.data, .pinned], laidTests := true, laidLooks := .later }
def FnCodecUptoCardSaid : Prop := Claim7.holds Tryd.pinned (.plain (OpenSpec.upto fnCodecSpec)) fnCodecUptoCard

/-- THE SECOND FORM's CARD OF 'laws.FnExactReadChanges'. -/
def fnExactReadChangesUptoCard : Claim7 := { stood := { row := fnExactReadChangesUptoRow, standIns := [], harness := (true, "dc1f1c80fa80dd364991f7be8adb9e8f650eaea71e08fd65e93266345ac4cbfd"), looks := true }, kinds := [], alts := [], laidByText := true, laidKinds := [.data, .data, .data, .data, .sentinel, .sentinel, .pinned], laidTests := true, laidLooks := .later }
def FnExactReadChangesUptoCardSaid : Prop := Claim7.holds Tryd.pinned (.plain (OpenSpec.upto fnExactReadChangesSpec)) fnExactReadChangesUptoCard
end Rows
end Go.Proofs.YtpmflkoepnanoaaDoor
