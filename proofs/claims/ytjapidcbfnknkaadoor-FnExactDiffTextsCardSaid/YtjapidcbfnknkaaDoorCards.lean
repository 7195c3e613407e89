/-
  DERIVED. GIVEN WITH THE SEED: THE CARDS: each row of YtjapidcbfnknkaaDoorRows.lean that lists a variable, with what it lists TIED to the program's text (the seventh form; the later family's looks); each row that meets fmt, with fmt's text TOLD by the authors' own Lean function (tested against real Go, not proved from fmt's source: count such statements apart). THE CARD IS WHAT COUNTS. Prove the row's statement (the work); the ties are given (YtjapidcbfnknkaaDoorTie.lean); close each card by the builder's one call (the guide's Derived/Test/ToyasCard.lean, 'card_holds'). Laid BY PROGRAM, IN A SANDBOX (cutbox-door.mjs). By AI agents, Wed Nov 11 2026. No macro, syntax, notation, axiom, sorry.
-/
import Derived.Test.YtjapidcbfnknkaaDoorRows
import GoSem.ClaimSeven
namespace Go.Proofs.YtjapidcbfnknkaaDoor
namespace Rows

/-- THE TIED CARD OF 'laws.FnExactLinesOf'. -/
def fnExactLinesOfCard : Claim7 := { stood := { row := fnExactLinesOfRow, standIns := [], harness := (true, "ba35455c9c118f4bfe1f3b1ea1a2da2417eb844404e02c2901ef64f271f5bc22"), looks := true }, kinds := [], alts := [], laidByText := true, laidKinds := [.data, .pinned], laidTests := true, laidLooks := .later }
def FnExactLinesOfCardSaid : Prop := Claim7.holds Tryd.pinned (.plain (OpenSpec.ofChange fnExactLinesOfSpec)) fnExactLinesOfCard

/-- THE TIED CARD OF 'laws.FnMergedTexts'. -/
def fnMergedTextsCard : Claim7 := { stood := { row := fnMergedTextsRow, standIns := [], harness := (true, "ba35455c9c118f4bfe1f3b1ea1a2da2417eb844404e02c2901ef64f271f5bc22"), looks := true }, kinds := [], alts := [], laidByText := true, laidKinds := [.data, .pinned], laidTests := true, laidLooks := .later }
def FnMergedTextsCardSaid : Prop := Claim7.holds Tryd.pinned (.plain (OpenSpec.ofChange fnMergedTextsSpec)) fnMergedTextsCard

/-- THE TIED CARD OF 'laws.FnExactDiffTexts'. -/
def fnExactDiffTextsCard : Claim7 := { stood := { row := fnExactDiffTextsRow, standIns := [], harness := (true, "ba35455c9c118f4bfe1f3b1ea1a2da2417eb844404e02c2901ef64f271f5bc22"), looks := true }, kinds := [], alts := [], laidByText := true, laidKinds := [.data, .pinned], laidTests := true, laidLooks := .later }
def FnExactDiffTextsCardSaid : Prop := Claim7.holds Tryd.pinned (.plain (OpenSpec.ofChange fnExactDiffTextsSpec)) fnExactDiffTextsCard

/-- THE TIED CARD OF 'laws.FnExactApplyChanges'. -/
def fnExactApplyChangesCard : Claim7 := { stood := { row := fnExactApplyChangesRow, standIns := [], harness := (true, "ba35455c9c118f4bfe1f3b1ea1a2da2417eb844404e02c2901ef64f271f5bc22"), looks := true }, kinds := [], alts := [], laidByText := true, laidKinds := [.data, .pinned], laidTests := true, laidLooks := .later }
def FnExactApplyChangesCardSaid : Prop := Claim7.holds Tryd.pinned (.plain (OpenSpec.ofChange fnExactApplyChangesSpec)) fnExactApplyChangesCard

/-- THE TIED CARD OF 'laws.FnExactDecodeRice'. -/
def fnExactDecodeRiceCard : Claim7 := { stood := { row := fnExactDecodeRiceRow, standIns := [], harness := (true, "ba35455c9c118f4bfe1f3b1ea1a2da2417eb844404e02c2901ef64f271f5bc22"), looks := true }, kinds := [], alts := [], laidByText := true, laidKinds := [.data, .pinned], laidTests := true, laidLooks := .later }
def FnExactDecodeRiceCardSaid : Prop := Claim7.holds Tryd.pinned (.plain (OpenSpec.ofChange fnExactDecodeRiceSpec)) fnExactDecodeRiceCard

/-- THE TIED CARD OF 'laws.FnExactChangesText'. -/
def fnExactChangesTextCard : Claim7 := { stood := { row := fnExactChangesTextRow, standIns := [], harness := (true, "ba35455c9c118f4bfe1f3b1ea1a2da2417eb844404e02c2901ef64f271f5bc22"), looks := true }, kinds := [], alts := [], laidByText := true, laidKinds := [.data, .data, .data], laidTests := true, laidLooks := .later }
def FnExactChangesTextCardSaid : Prop := Claim7.holds Tryd.pinned (.plain (OpenSpec.ofChange fnExactChangesTextSpec)) fnExactChangesTextCard

/-- THE TIED CARD OF 'laws.FnExactMergeTexts'. -/
def fnExactMergeTextsCard : Claim7 := { stood := { row := fnExactMergeTextsRow, standIns := [], harness := (true, "ba35455c9c118f4bfe1f3b1ea1a2da2417eb844404e02c2901ef64f271f5bc22"), looks := true }, kinds := [], alts := [], laidByText := true, laidKinds := [.data, .pinned], laidTests := true, laidLooks := .later }
def FnExactMergeTextsCardSaid : Prop := Claim7.holds Tryd.pinned (.plain (OpenSpec.ofChange fnExactMergeTextsSpec)) fnExactMergeTextsCard

/-- THE TIED CARD OF 'laws.FnCodec'. -/
def fnCodecCard : Claim7 := { stood := { row := fnCodecRow, standIns := [], harness := (true, "ba35455c9c118f4bfe1f3b1ea1a2da2417eb844404e02c2901ef64f271f5bc22"), looks := true }, kinds := [], alts := [], laidByText := true, laidKinds := [.data, .pinned], laidTests := true, laidLooks := .later }
def FnCodecCardSaid : Prop := Claim7.holds Tryd.pinned (.plain (OpenSpec.ofChange fnCodecSpec)) fnCodecCard

/-- THE TIED CARD OF 'laws.FnExactReadChanges'. -/
def fnExactReadChangesCard : Claim7 := { stood := { row := fnExactReadChangesRow, standIns := [], harness := (true, "ba35455c9c118f4bfe1f3b1ea1a2da2417eb844404e02c2901ef64f271f5bc22"), looks := true }, kinds := [], alts := [], laidByText := true, laidKinds := [.data, .data, .data, .data, .sentinel, .sentinel, .pinned], laidTests := true, laidLooks := .later }
def FnExactReadChangesCardSaid : Prop := Claim7.holds Tryd.pinned (.plain (OpenSpec.ofChange fnExactReadChangesSpec)) fnExactReadChangesCard

/-- THE SECOND FORM's CARD OF 'laws.FnExactLinesOf'. -/
def fnExactLinesOfUptoCard : Claim7 := { stood := { row := fnExactLinesOfUptoRow, standIns := [], harness := (true, "ba35455c9c118f4bfe1f3b1ea1a2da2417eb844404e02c2901ef64f271f5bc22"), looks := true }, kinds := [], alts := [], laidByText := true, laidKinds := [.data, .pinned], laidTests := true, laidLooks := .later }
def FnExactLinesOfUptoCardSaid : Prop := Claim7.holds Tryd.pinned (.plain (OpenSpec.upto fnExactLinesOfSpec)) fnExactLinesOfUptoCard

/-- THE SECOND FORM's CARD OF 'laws.FnMergedTexts'. -/
def fnMergedTextsUptoCard : Claim7 := { stood := { row := fnMergedTextsUptoRow, standIns := [], harness := (true, "ba35455c9c118f4bfe1f3b1ea1a2da2417eb844404e02c2901ef64f271f5bc22"), looks := true }, kinds := [], alts := [], laidByText := true, laidKinds := [.data, .pinned], laidTests := true, laidLooks := .later }
def FnMergedTextsUptoCardSaid : Prop := Claim7.holds Tryd.pinned (.plain (OpenSpec.upto fnMergedTextsSpec)) fnMergedTextsUptoCard

/-- THE SECOND FORM's CARD OF 'laws.FnExactDiffTexts'. -/
def fnExactDiffTextsUptoCard : Claim7 := { stood := { row := fnExactDiffTextsUptoRow, standIns := [], harness := (true, "ba35455c9c118f4bfe1f3b1ea1a2da2417eb844404e02c2901ef64f271f5bc22"), looks := true }, kinds := [], alts := [], laidByText := true, laidKinds := [.data, .pinned], laidTests := true, laidLooks := .later }
def FnExactDiffTextsUptoCardSaid : Prop := Claim7.holds Tryd.pinned (.plain (OpenSpec.upto fnExactDiffTextsSpec)) fnExactDiffTextsUptoCard

/-- THE SECOND FORM's CARD OF 'laws.FnExactApplyChanges'. -/
def fnExactApplyChangesUptoCard : Claim7 := { stood := { row := fnExactApplyChangesUptoRow, standIns := [], harness := (true, "ba35455c9c118f4bfe1f3b1ea1a2da2417eb844404e02c2901ef64f271f5bc22"), looks := true }, kinds := [], alts := [], laidByText := true, laidKinds := [.data, .pinned], laidTests := true, laidLooks := .later }
def FnExactApplyChangesUptoCardSaid : Prop := Claim7.holds Tryd.pinned (.plain (OpenSpec.upto fnExactApplyChangesSpec)) fnExactApplyChangesUptoCard

/-- THE SECOND FORM's CARD OF 'laws.FnExactDecodeRice'. -/
def fnExactDecodeRiceUptoCard : Claim7 := { stood := { row := fnExactDecodeRiceUptoRow, standIns := [], harness := (true, "ba35455c9c118f4bfe1f3b1ea1a2da2417eb844404e02c2901ef64f271f5bc22"), looks := true }, kinds := [], alts := [], laidByText := true, laidKinds := [.data, .pinned], laidTests := true, laidLooks := .later }
def FnExactDecodeRiceUptoCardSaid : Prop := Claim7.holds Tryd.pinned (.plain (OpenSpec.upto fnExactDecodeRiceSpec)) fnExactDecodeRiceUptoCard

/-- THE SECOND FORM's CARD OF 'laws.FnExactChangesText'. -/
def fnExactChangesTextUptoCard : Claim7 := { stood := { row := fnExactChangesTextUptoRow, standIns := [], harness := (true, "ba35455c9c118f4bfe1f3b1ea1a2da2417eb844404e02c2901ef64f271f5bc22"), looks := true }, kinds := [], alts := [], laidByText := true, laidKinds := [.data, .data, .data], laidTests := true, laidLooks := .later }
def FnExactChangesTextUptoCardSaid : Prop := Claim7.holds Tryd.pinned (.plain (OpenSpec.upto fnExactChangesTextSpec)) fnExactChangesTextUptoCard

/-- THE SECOND FORM's CARD OF 'laws.FnExactMergeTexts'. -/
def fnExactMergeTextsUptoCard : Claim7 := { stood := { row := fnExactMergeTextsUptoRow, standIns := [], harness := (true, "ba35455c9c118f4bfe1f3b1ea1a2da2417eb844404e02c2901ef64f271f5bc22"), looks := true }, kinds := [], alts := [], laidByText := true, laidKinds := [.data, .pinned], laidTests := true, laidLooks := .later }
def FnExactMergeTextsUptoCardSaid : Prop := Claim7.holds Tryd.pinned (.plain (OpenSpec.upto fnExactMergeTextsSpec)) fnExactMergeTextsUptoCard

/-- THE SECOND FORM's CARD OF 'laws.FnCodec'. -/
def fnCodecUptoCard : Claim7 := { stood := { row := fnCodecUptoRow, standIns := [], harness := (true, "ba35455c9c118f4bfe1f3b1ea1a2da2417eb844404e02c2901ef64f271f5bc22"), looks := true }, kinds := [], alts := [], laidByText := true, laidKinds := [.data, .pinned], laidTests := true, laidLooks := .later }
def FnCodecUptoCardSaid : Prop := Claim7.holds Tryd.pinned (.plain (OpenSpec.upto fnCodecSpec)) fnCodecUptoCard

/-- THE SECOND FORM's CARD OF 'laws.FnExactReadChanges'. -/
def fnExactReadChangesUptoCard : Claim7 := { stood := { row := fnExactReadChangesUptoRow, standIns := [], harness := (true, "ba35455c9c118f4bfe1f3b1ea1a2da2417eb844404e02c2901ef64f271f5bc22"), looks := true }, kinds := [], alts := [], laidByText := true, laidKinds := [.data, .data, .data, .data, .sentinel, .sentinel, .pinned], laidTests := true, laidLooks := .later }
def FnExactReadChangesUptoCardSaid : Prop := Claim7.holds Tryd.pinned (.plain (OpenSpec.upto fnExactReadChangesSpec)) fnExactReadChangesUptoCard
end Rows
end Go.Proofs.YtjapidcbfnknkaaDoor
