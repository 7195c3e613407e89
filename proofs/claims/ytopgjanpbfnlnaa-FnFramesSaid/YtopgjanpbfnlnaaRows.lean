/-
  No cell of these rows narrows 'for every input' (looked for: loops, veiled, ifaces, maps, wideKeys, modest, calm, conditions, laid).
  DERIVED. THE GIVEN ROWS OF THIS SEAT. 16 by the template 'for every input the law returns true; each argument reads behind the call as it read before'; 0 by the template 'total and deterministic' (their statements: YtopgjanpbfnlnaaTotals.lean).
  GIVEN WITH THE SEED: the statements are not yours to turn. If you find one false, say at which input.
  Laid BY PROGRAM, IN A SANDBOX (cutbox-rows.mjs): the forced cells as the released guide's own fill.sh prints them over the translation 2d930c6246c74b90… (all of the seat's roots in one cut). By AI agents, Wed Nov 11 2026. No macro, syntax, notation, axiom, sorry.
-/
import Derived.Test.YtopgjanpbfnlnaaChecked
import GoSem.Claim
import GoSem.ClaimJoined
import GoSem.ClaimMapViews
import Derived.JoinedTies
import Derived.KernelRfl
namespace Go.Proofs.Ytopgjanpbfnlnaa
/- THE CELL 'sum', in the pinned program and in every row, IS THE sha256 OF THE DUMP (.gsa) THAT YtopgjanpbfnlnaaProg.lean LOADS. Nothing in Lean hashes anything: it is a label: what it is worth is what the hold of that sum in a sandbox is worth. -/
noncomputable def Try.pinned : Pinned := { name := "ytopgjanpbfnlnaa", sum := "2d930c6246c74b90552b276e5b5dc991f419077204df9f4be4b4aaae6a880fd6", checked := Try.checked }
namespace Rows
def none {H : Type} : Left H := { results := [], args := [] }

/-- 'laws.FnExactStoreInfo': WHATEVER THE INPUT: true; the input reads as it did. -/
def fnExactStoreInfoSpec : ChangeSpec := { name := "fnExactStoreInfo", fn := fun _ => fun
  | [d] => { results := [.lit (.bool true)], args := [d] }
  | _ => none }
def fnExactStoreInfoRow : OpenClaim := { program := "ytopgjanpbfnlnaa", sum := "2d930c6246c74b90552b276e5b5dc991f419077204df9f4be4b4aaae6a880fd6", func := "loop.example/g00903/laws.FnExactStoreInfo", spec := "fnExactStoreInfo", apart := false }
def FnExactStoreInfoSaid : Prop := fnExactStoreInfoRow.holds Try.pinned (OpenSpec.ofChange fnExactStoreInfoSpec)

/-- ITS FALSE NEIGHBOUR: 'it returns false'. Refute it at one input. -/
def fnExactStoreInfoWrong : ChangeSpec := { name := "fnExactStoreInfo", fn := fun _ => fun
  | [d] => { results := [.lit (.bool false)], args := [d] }
  | _ => none }
def FnExactStoreInfoWrongFalsely : Prop := fnExactStoreInfoRow.holds Try.pinned (OpenSpec.ofChange fnExactStoreInfoWrong)

/-- 'laws.FnExactPredictSignal': WHATEVER THE INPUT: true; the input reads as it did. -/
def fnExactPredictSignalSpec : ChangeSpec := { name := "fnExactPredictSignal", fn := fun _ => fun
  | [d1, d2] => { results := [.lit (.bool true)], args := [d1, d2] }
  | _ => none }
def fnExactPredictSignalRow : OpenClaim := { program := "ytopgjanpbfnlnaa", sum := "2d930c6246c74b90552b276e5b5dc991f419077204df9f4be4b4aaae6a880fd6", func := "loop.example/g00903/laws.FnExactPredictSignal", spec := "fnExactPredictSignal", apart := false }
def FnExactPredictSignalSaid : Prop := fnExactPredictSignalRow.holds Try.pinned (OpenSpec.ofChange fnExactPredictSignalSpec)

/-- ITS FALSE NEIGHBOUR: 'it returns false'. Refute it at one input. -/
def fnExactPredictSignalWrong : ChangeSpec := { name := "fnExactPredictSignal", fn := fun _ => fun
  | [d1, d2] => { results := [.lit (.bool false)], args := [d1, d2] }
  | _ => none }
def FnExactPredictSignalWrongFalsely : Prop := fnExactPredictSignalRow.holds Try.pinned (OpenSpec.ofChange fnExactPredictSignalWrong)

/-- 'laws.FnExactFramesOf': WHATEVER THE INPUT: true; the input reads as it did. -/
def fnExactFramesOfSpec : ChangeSpec := { name := "fnExactFramesOf", fn := fun _ => fun
  | [d] => { results := [.lit (.bool true)], args := [d] }
  | _ => none }
def fnExactFramesOfRow : OpenClaim := { program := "ytopgjanpbfnlnaa", sum := "2d930c6246c74b90552b276e5b5dc991f419077204df9f4be4b4aaae6a880fd6", func := "loop.example/g00903/laws.FnExactFramesOf", spec := "fnExactFramesOf", apart := false }
def FnExactFramesOfSaid : Prop := fnExactFramesOfRow.holds Try.pinned (OpenSpec.ofChange fnExactFramesOfSpec)

/-- ITS FALSE NEIGHBOUR: 'it returns false'. Refute it at one input. -/
def fnExactFramesOfWrong : ChangeSpec := { name := "fnExactFramesOf", fn := fun _ => fun
  | [d] => { results := [.lit (.bool false)], args := [d] }
  | _ => none }
def FnExactFramesOfWrongFalsely : Prop := fnExactFramesOfRow.holds Try.pinned (OpenSpec.ofChange fnExactFramesOfWrong)

/-- 'laws.FnExactBestOrder': WHATEVER THE INPUT: true; the input reads as it did. -/
def fnExactBestOrderSpec : ChangeSpec := { name := "fnExactBestOrder", fn := fun _ => fun
  | [d] => { results := [.lit (.bool true)], args := [d] }
  | _ => none }
def fnExactBestOrderRow : OpenClaim := { program := "ytopgjanpbfnlnaa", sum := "2d930c6246c74b90552b276e5b5dc991f419077204df9f4be4b4aaae6a880fd6", func := "loop.example/g00903/laws.FnExactBestOrder", spec := "fnExactBestOrder", apart := false }
def FnExactBestOrderSaid : Prop := fnExactBestOrderRow.holds Try.pinned (OpenSpec.ofChange fnExactBestOrderSpec)

/-- ITS FALSE NEIGHBOUR: 'it returns false'. Refute it at one input. -/
def fnExactBestOrderWrong : ChangeSpec := { name := "fnExactBestOrder", fn := fun _ => fun
  | [d] => { results := [.lit (.bool false)], args := [d] }
  | _ => none }
def FnExactBestOrderWrongFalsely : Prop := fnExactBestOrderRow.holds Try.pinned (OpenSpec.ofChange fnExactBestOrderWrong)

/-- 'laws.FnExactEncodeRice': WHATEVER THE INPUT: true; the input reads as it did. -/
def fnExactEncodeRiceSpec : ChangeSpec := { name := "fnExactEncodeRice", fn := fun _ => fun
  | [d1, d2] => { results := [.lit (.bool true)], args := [d1, d2] }
  | _ => none }
def fnExactEncodeRiceRow : OpenClaim := { program := "ytopgjanpbfnlnaa", sum := "2d930c6246c74b90552b276e5b5dc991f419077204df9f4be4b4aaae6a880fd6", func := "loop.example/g00903/laws.FnExactEncodeRice", spec := "fnExactEncodeRice", inPlace := ["internal/abi.NoEscape", "internal/bytealg.MakeNoZero"], apart := false }
def FnExactEncodeRiceSaid : Prop := fnExactEncodeRiceRow.holds Try.pinned (OpenSpec.ofChange fnExactEncodeRiceSpec)

/-- ITS FALSE NEIGHBOUR: 'it returns false'. Refute it at one input. -/
def fnExactEncodeRiceWrong : ChangeSpec := { name := "fnExactEncodeRice", fn := fun _ => fun
  | [d1, d2] => { results := [.lit (.bool false)], args := [d1, d2] }
  | _ => none }
def FnExactEncodeRiceWrongFalsely : Prop := fnExactEncodeRiceRow.holds Try.pinned (OpenSpec.ofChange fnExactEncodeRiceWrong)

/-- 'laws.FnExactDecodeFrame': WHATEVER THE INPUT: true; the input reads as it did. -/
def fnExactDecodeFrameSpec : ChangeSpec := { name := "fnExactDecodeFrame", fn := fun _ => fun
  | [d] => { results := [.lit (.bool true)], args := [d] }
  | _ => none }
def fnExactDecodeFrameRow : OpenClaim := { program := "ytopgjanpbfnlnaa", sum := "2d930c6246c74b90552b276e5b5dc991f419077204df9f4be4b4aaae6a880fd6", func := "loop.example/g00903/laws.FnExactDecodeFrame", spec := "fnExactDecodeFrame", inPlace := ["internal/abi.NoEscape", "internal/bytealg.IndexByteString", "internal/bytealg.IndexString"], named := ["internal/bytealg.MaxLen"], apart := false }
def FnExactDecodeFrameSaid : Prop := fnExactDecodeFrameRow.holds Try.pinned (OpenSpec.ofChange fnExactDecodeFrameSpec)

/-- ITS FALSE NEIGHBOUR: 'it returns false'. Refute it at one input. -/
def fnExactDecodeFrameWrong : ChangeSpec := { name := "fnExactDecodeFrame", fn := fun _ => fun
  | [d] => { results := [.lit (.bool false)], args := [d] }
  | _ => none }
def FnExactDecodeFrameWrongFalsely : Prop := fnExactDecodeFrameRow.holds Try.pinned (OpenSpec.ofChange fnExactDecodeFrameWrong)

/-- 'laws.FnExactEncodeFrame': WHATEVER THE INPUT: true; the input reads as it did. -/
def fnExactEncodeFrameSpec : ChangeSpec := { name := "fnExactEncodeFrame", fn := fun _ => fun
  | [d] => { results := [.lit (.bool true)], args := [d] }
  | _ => none }
def fnExactEncodeFrameRow : OpenClaim := { program := "ytopgjanpbfnlnaa", sum := "2d930c6246c74b90552b276e5b5dc991f419077204df9f4be4b4aaae6a880fd6", func := "loop.example/g00903/laws.FnExactEncodeFrame", spec := "fnExactEncodeFrame", inPlace := ["internal/abi.NoEscape", "internal/bytealg.MakeNoZero"], apart := false }
def FnExactEncodeFrameSaid : Prop := fnExactEncodeFrameRow.holds Try.pinned (OpenSpec.ofChange fnExactEncodeFrameSpec)

/-- ITS FALSE NEIGHBOUR: 'it returns false'. Refute it at one input. -/
def fnExactEncodeFrameWrong : ChangeSpec := { name := "fnExactEncodeFrame", fn := fun _ => fun
  | [d] => { results := [.lit (.bool false)], args := [d] }
  | _ => none }
def FnExactEncodeFrameWrongFalsely : Prop := fnExactEncodeFrameRow.holds Try.pinned (OpenSpec.ofChange fnExactEncodeFrameWrong)

/-- 'laws.FnExactStoreSignal': WHATEVER THE INPUT: true; the input reads as it did. -/
def fnExactStoreSignalSpec : ChangeSpec := { name := "fnExactStoreSignal", fn := fun _ => fun
  | [d1, d2] => { results := [.lit (.bool true)], args := [d1, d2] }
  | _ => none }
def fnExactStoreSignalRow : OpenClaim := { program := "ytopgjanpbfnlnaa", sum := "2d930c6246c74b90552b276e5b5dc991f419077204df9f4be4b4aaae6a880fd6", func := "loop.example/g00903/laws.FnExactStoreSignal", spec := "fnExactStoreSignal", inPlace := ["internal/abi.NoEscape", "internal/bytealg.MakeNoZero"], apart := false }
def FnExactStoreSignalSaid : Prop := fnExactStoreSignalRow.holds Try.pinned (OpenSpec.ofChange fnExactStoreSignalSpec)

/-- ITS FALSE NEIGHBOUR: 'it returns false'. Refute it at one input. -/
def fnExactStoreSignalWrong : ChangeSpec := { name := "fnExactStoreSignal", fn := fun _ => fun
  | [d1, d2] => { results := [.lit (.bool false)], args := [d1, d2] }
  | _ => none }
def FnExactStoreSignalWrongFalsely : Prop := fnExactStoreSignalRow.holds Try.pinned (OpenSpec.ofChange fnExactStoreSignalWrong)

/-- 'laws.FnExactReplaceFrame': WHATEVER THE INPUT: true; the input reads as it did. -/
def fnExactReplaceFrameSpec : ChangeSpec := { name := "fnExactReplaceFrame", fn := fun _ => fun
  | [d1, d2, d3] => { results := [.lit (.bool true)], args := [d1, d2, d3] }
  | _ => none }
def fnExactReplaceFrameRow : OpenClaim := { program := "ytopgjanpbfnlnaa", sum := "2d930c6246c74b90552b276e5b5dc991f419077204df9f4be4b4aaae6a880fd6", func := "loop.example/g00903/laws.FnExactReplaceFrame", spec := "fnExactReplaceFrame", inPlace := ["internal/abi.NoEscape", "internal/bytealg.MakeNoZero"], apart := false }
def FnExactReplaceFrameSaid : Prop := fnExactReplaceFrameRow.holds Try.pinned (OpenSpec.ofChange fnExactReplaceFrameSpec)

/-- ITS FALSE NEIGHBOUR: 'it returns false'. Refute it at one input. -/
def fnExactReplaceFrameWrong : ChangeSpec := { name := "fnExactReplaceFrame", fn := fun _ => fun
  | [d1, d2, d3] => { results := [.lit (.bool false)], args := [d1, d2, d3] }
  | _ => none }
def FnExactReplaceFrameWrongFalsely : Prop := fnExactReplaceFrameRow.holds Try.pinned (OpenSpec.ofChange fnExactReplaceFrameWrong)

/-- 'laws.FnExactLoadFrame': WHATEVER THE INPUT: true; the input reads as it did. -/
def fnExactLoadFrameSpec : ChangeSpec := { name := "fnExactLoadFrame", fn := fun _ => fun
  | [d1, d2] => { results := [.lit (.bool true)], args := [d1, d2] }
  | _ => none }
def fnExactLoadFrameRow : OpenClaim := { program := "ytopgjanpbfnlnaa", sum := "2d930c6246c74b90552b276e5b5dc991f419077204df9f4be4b4aaae6a880fd6", func := "loop.example/g00903/laws.FnExactLoadFrame", spec := "fnExactLoadFrame", inPlace := ["internal/abi.NoEscape", "internal/bytealg.IndexByteString", "internal/bytealg.IndexString"], named := ["internal/bytealg.MaxLen"], apart := false }
def FnExactLoadFrameSaid : Prop := fnExactLoadFrameRow.holds Try.pinned (OpenSpec.ofChange fnExactLoadFrameSpec)

/-- ITS FALSE NEIGHBOUR: 'it returns false'. Refute it at one input. -/
def fnExactLoadFrameWrong : ChangeSpec := { name := "fnExactLoadFrame", fn := fun _ => fun
  | [d1, d2] => { results := [.lit (.bool false)], args := [d1, d2] }
  | _ => none }
def FnExactLoadFrameWrongFalsely : Prop := fnExactLoadFrameRow.holds Try.pinned (OpenSpec.ofChange fnExactLoadFrameWrong)

/-- 'laws.FnExactLoadSignal': WHATEVER THE INPUT: true; the input reads as it did. -/
def fnExactLoadSignalSpec : ChangeSpec := { name := "fnExactLoadSignal", fn := fun _ => fun
  | [d] => { results := [.lit (.bool true)], args := [d] }
  | _ => none }
def fnExactLoadSignalRow : OpenClaim := { program := "ytopgjanpbfnlnaa", sum := "2d930c6246c74b90552b276e5b5dc991f419077204df9f4be4b4aaae6a880fd6", func := "loop.example/g00903/laws.FnExactLoadSignal", spec := "fnExactLoadSignal", inPlace := ["internal/abi.NoEscape", "internal/bytealg.IndexByteString", "internal/bytealg.IndexString"], named := ["internal/bytealg.MaxLen"], apart := false }
def FnExactLoadSignalSaid : Prop := fnExactLoadSignalRow.holds Try.pinned (OpenSpec.ofChange fnExactLoadSignalSpec)

/-- ITS FALSE NEIGHBOUR: 'it returns false'. Refute it at one input. -/
def fnExactLoadSignalWrong : ChangeSpec := { name := "fnExactLoadSignal", fn := fun _ => fun
  | [d] => { results := [.lit (.bool false)], args := [d] }
  | _ => none }
def FnExactLoadSignalWrongFalsely : Prop := fnExactLoadSignalRow.holds Try.pinned (OpenSpec.ofChange fnExactLoadSignalWrong)

/-- 'laws.FnFrames': WHATEVER THE INPUT: true; the input reads as it did. -/
def fnFramesSpec : ChangeSpec := { name := "fnFrames", fn := fun _ => fun
  | [d1, d2] => { results := [.lit (.bool true)], args := [d1, d2] }
  | _ => none }
def fnFramesRow : OpenClaim := { program := "ytopgjanpbfnlnaa", sum := "2d930c6246c74b90552b276e5b5dc991f419077204df9f4be4b4aaae6a880fd6", func := "loop.example/g00903/laws.FnFrames", spec := "fnFrames", inPlace := ["internal/abi.NoEscape", "internal/bytealg.MakeNoZero", "internal/bytealg.IndexByteString", "internal/bytealg.IndexString"], named := ["internal/bytealg.MaxLen"], apart := false }
def FnFramesSaid : Prop := fnFramesRow.holds Try.pinned (OpenSpec.ofChange fnFramesSpec)

/-- ITS FALSE NEIGHBOUR: 'it returns false'. Refute it at one input. -/
def fnFramesWrong : ChangeSpec := { name := "fnFrames", fn := fun _ => fun
  | [d1, d2] => { results := [.lit (.bool false)], args := [d1, d2] }
  | _ => none }
def FnFramesWrongFalsely : Prop := fnFramesRow.holds Try.pinned (OpenSpec.ofChange fnFramesWrong)

/-- 'laws.FnExactLoadRange': WHATEVER THE INPUT: true; the input reads as it did. -/
def fnExactLoadRangeSpec : ChangeSpec := { name := "fnExactLoadRange", fn := fun _ => fun
  | [d1, d2, d3] => { results := [.lit (.bool true)], args := [d1, d2, d3] }
  | _ => none }
def fnExactLoadRangeRow : OpenClaim := { program := "ytopgjanpbfnlnaa", sum := "2d930c6246c74b90552b276e5b5dc991f419077204df9f4be4b4aaae6a880fd6", func := "loop.example/g00903/laws.FnExactLoadRange", spec := "fnExactLoadRange", inPlace := ["internal/abi.NoEscape", "internal/bytealg.IndexByteString", "internal/bytealg.IndexString"], named := ["internal/bytealg.MaxLen"], apart := false }
def FnExactLoadRangeSaid : Prop := fnExactLoadRangeRow.holds Try.pinned (OpenSpec.ofChange fnExactLoadRangeSpec)

/-- ITS FALSE NEIGHBOUR: 'it returns false'. Refute it at one input. -/
def fnExactLoadRangeWrong : ChangeSpec := { name := "fnExactLoadRange", fn := fun _ => fun
  | [d1, d2, d3] => { results := [.lit (.bool false)], args := [d1, d2, d3] }
  | _ => none }
def FnExactLoadRangeWrongFalsely : Prop := fnExactLoadRangeRow.holds Try.pinned (OpenSpec.ofChange fnExactLoadRangeWrong)

/-- 'laws.FnExactDamagedFrames': WHATEVER THE INPUT: true; the input reads as it did. -/
def fnExactDamagedFramesSpec : ChangeSpec := { name := "fnExactDamagedFrames", fn := fun _ => fun
  | [d] => { results := [.lit (.bool true)], args := [d] }
  | _ => none }
def fnExactDamagedFramesRow : OpenClaim := { program := "ytopgjanpbfnlnaa", sum := "2d930c6246c74b90552b276e5b5dc991f419077204df9f4be4b4aaae6a880fd6", func := "loop.example/g00903/laws.FnExactDamagedFrames", spec := "fnExactDamagedFrames", inPlace := ["internal/abi.NoEscape", "internal/bytealg.IndexByteString", "internal/bytealg.IndexString"], named := ["internal/bytealg.MaxLen"], apart := false }
def FnExactDamagedFramesSaid : Prop := fnExactDamagedFramesRow.holds Try.pinned (OpenSpec.ofChange fnExactDamagedFramesSpec)

/-- ITS FALSE NEIGHBOUR: 'it returns false'. Refute it at one input. -/
def fnExactDamagedFramesWrong : ChangeSpec := { name := "fnExactDamagedFrames", fn := fun _ => fun
  | [d] => { results := [.lit (.bool false)], args := [d] }
  | _ => none }
def FnExactDamagedFramesWrongFalsely : Prop := fnExactDamagedFramesRow.holds Try.pinned (OpenSpec.ofChange fnExactDamagedFramesWrong)

/-- 'laws.FnExactSalvageSignal': WHATEVER THE INPUT: true; the input reads as it did. -/
def fnExactSalvageSignalSpec : ChangeSpec := { name := "fnExactSalvageSignal", fn := fun _ => fun
  | [d] => { results := [.lit (.bool true)], args := [d] }
  | _ => none }
def fnExactSalvageSignalRow : OpenClaim := { program := "ytopgjanpbfnlnaa", sum := "2d930c6246c74b90552b276e5b5dc991f419077204df9f4be4b4aaae6a880fd6", func := "loop.example/g00903/laws.FnExactSalvageSignal", spec := "fnExactSalvageSignal", inPlace := ["internal/abi.NoEscape", "internal/bytealg.IndexByteString", "internal/bytealg.IndexString"], named := ["internal/bytealg.MaxLen"], apart := false }
def FnExactSalvageSignalSaid : Prop := fnExactSalvageSignalRow.holds Try.pinned (OpenSpec.ofChange fnExactSalvageSignalSpec)

/-- ITS FALSE NEIGHBOUR: 'it returns false'. Refute it at one input. -/
def fnExactSalvageSignalWrong : ChangeSpec := { name := "fnExactSalvageSignal", fn := fun _ => fun
  | [d] => { results := [.lit (.bool false)], args := [d] }
  | _ => none }
def FnExactSalvageSignalWrongFalsely : Prop := fnExactSalvageSignalRow.holds Try.pinned (OpenSpec.ofChange fnExactSalvageSignalWrong)

/-- 'laws.FnDamage': WHATEVER THE INPUT: true; the input reads as it did. -/
def fnDamageSpec : ChangeSpec := { name := "fnDamage", fn := fun _ => fun
  | [d1, d2] => { results := [.lit (.bool true)], args := [d1, d2] }
  | _ => none }
def fnDamageRow : OpenClaim := { program := "ytopgjanpbfnlnaa", sum := "2d930c6246c74b90552b276e5b5dc991f419077204df9f4be4b4aaae6a880fd6", func := "loop.example/g00903/laws.FnDamage", spec := "fnDamage", inPlace := ["internal/abi.NoEscape", "internal/bytealg.IndexByteString", "internal/bytealg.IndexString"], named := ["internal/bytealg.MaxLen"], apart := false }
def FnDamageSaid : Prop := fnDamageRow.holds Try.pinned (OpenSpec.ofChange fnDamageSpec)

/-- ITS FALSE NEIGHBOUR: 'it returns false'. Refute it at one input. -/
def fnDamageWrong : ChangeSpec := { name := "fnDamage", fn := fun _ => fun
  | [d1, d2] => { results := [.lit (.bool false)], args := [d1, d2] }
  | _ => none }
def FnDamageWrongFalsely : Prop := fnDamageRow.holds Try.pinned (OpenSpec.ofChange fnDamageWrong)

/- THE SECOND FORM. 'bulk': how many values and letters a reading holds, each counted each time it is reached (what is shared counts as often as it is met; a slice's spare places count too). A statement '..UptoSaid' is the law's where the arguments, and the package variables that the reading takes, are together of bulk at most 1048576: NARROWER than '..Said'. Prove '..Said' where nothing that the law and all that it calls make is longer than what came in: it says more and counts as full. Else prove '..UptoSaid'. A law counts once. -/
mutual
def uptoBulk {H : Type} : DataW H → Nat
  | .lit (.string bytes) => bytes.length + 1
  | .lit _ => 1
  | .nil => 1
  | .ptr d => uptoBulk d + 1
  | .slice elems spare => uptoBulkAll elems + uptoBulkAll spare + 1
  | .agg parts => uptoBulkAll parts + 1
  | .iface _ d => uptoBulk d + 1
  | .map entries => uptoBulkEntries entries + 1
  | .held _ => 1
def uptoBulkAll {H : Type} : List (DataW H) → Nat
  | [] => 0
  | d :: r => uptoBulk d + uptoBulkAll r
def uptoBulkEntries {H : Type} : List (Lit × DataW H) → Nat
  | [] => 0
  | x :: r => uptoBulkEntry x + uptoBulkEntries r
def uptoBulkEntry {H : Type} : Lit × DataW H → Nat
  | (.string bytes, d) => bytes.length + uptoBulk d + 1
  | (_, d) => uptoBulk d + 1
 end
def uptoSmall : (H : Type) → List (DataW H) → Bool := fun _ ds => decide (uptoBulkAll ds ≤ 1048576)
def OpenSpec.upto (s : _root_.Go.ChangeSpec) : _root_.Go.OpenSpec := { _root_.Go.OpenSpec.ofChange s with cond := some uptoSmall }

/-- 'laws.FnExactStoreInfo', WHERE WHAT IT READS IS OF BULK AT MOST 1048576: true; the input reads as it did. -/
def fnExactStoreInfoUptoRow : OpenClaim := { program := "ytopgjanpbfnlnaa", sum := "2d930c6246c74b90552b276e5b5dc991f419077204df9f4be4b4aaae6a880fd6", func := "loop.example/g00903/laws.FnExactStoreInfo", spec := "fnExactStoreInfo", apart := false, narrowed := true }
def FnExactStoreInfoUptoSaid : Prop := fnExactStoreInfoUptoRow.holds Try.pinned (OpenSpec.upto fnExactStoreInfoSpec)

/-- 'laws.FnExactPredictSignal', WHERE WHAT IT READS IS OF BULK AT MOST 1048576: true; the input reads as it did. -/
def fnExactPredictSignalUptoRow : OpenClaim := { program := "ytopgjanpbfnlnaa", sum := "2d930c6246c74b90552b276e5b5dc991f419077204df9f4be4b4aaae6a880fd6", func := "loop.example/g00903/laws.FnExactPredictSignal", spec := "fnExactPredictSignal", apart := false, narrowed := true }
def FnExactPredictSignalUptoSaid : Prop := fnExactPredictSignalUptoRow.holds Try.pinned (OpenSpec.upto fnExactPredictSignalSpec)

/-- 'laws.FnExactFramesOf', WHERE WHAT IT READS IS OF BULK AT MOST 1048576: true; the input reads as it did. -/
def fnExactFramesOfUptoRow : OpenClaim := { program := "ytopgjanpbfnlnaa", sum := "2d930c6246c74b90552b276e5b5dc991f419077204df9f4be4b4aaae6a880fd6", func := "loop.example/g00903/laws.FnExactFramesOf", spec := "fnExactFramesOf", apart := false, narrowed := true }
def FnExactFramesOfUptoSaid : Prop := fnExactFramesOfUptoRow.holds Try.pinned (OpenSpec.upto fnExactFramesOfSpec)

/-- 'laws.FnExactBestOrder', WHERE WHAT IT READS IS OF BULK AT MOST 1048576: true; the input reads as it did. -/
def fnExactBestOrderUptoRow : OpenClaim := { program := "ytopgjanpbfnlnaa", sum := "2d930c6246c74b90552b276e5b5dc991f419077204df9f4be4b4aaae6a880fd6", func := "loop.example/g00903/laws.FnExactBestOrder", spec := "fnExactBestOrder", apart := false, narrowed := true }
def FnExactBestOrderUptoSaid : Prop := fnExactBestOrderUptoRow.holds Try.pinned (OpenSpec.upto fnExactBestOrderSpec)

/-- 'laws.FnExactEncodeRice', WHERE WHAT IT READS IS OF BULK AT MOST 1048576: true; the input reads as it did. -/
def fnExactEncodeRiceUptoRow : OpenClaim := { program := "ytopgjanpbfnlnaa", sum := "2d930c6246c74b90552b276e5b5dc991f419077204df9f4be4b4aaae6a880fd6", func := "loop.example/g00903/laws.FnExactEncodeRice", spec := "fnExactEncodeRice", inPlace := ["internal/abi.NoEscape", "internal/bytealg.MakeNoZero"], apart := false, narrowed := true }
def FnExactEncodeRiceUptoSaid : Prop := fnExactEncodeRiceUptoRow.holds Try.pinned (OpenSpec.upto fnExactEncodeRiceSpec)

/-- 'laws.FnExactDecodeFrame', WHERE WHAT IT READS IS OF BULK AT MOST 1048576: true; the input reads as it did. -/
def fnExactDecodeFrameUptoRow : OpenClaim := { program := "ytopgjanpbfnlnaa", sum := "2d930c6246c74b90552b276e5b5dc991f419077204df9f4be4b4aaae6a880fd6", func := "loop.example/g00903/laws.FnExactDecodeFrame", spec := "fnExactDecodeFrame", inPlace := ["internal/abi.NoEscape", "internal/bytealg.IndexByteString", "internal/bytealg.IndexString"], named := ["internal/bytealg.MaxLen"], apart := false, narrowed := true }
def FnExactDecodeFrameUptoSaid : Prop := fnExactDecodeFrameUptoRow.holds Try.pinned (OpenSpec.upto fnExactDecodeFrameSpec)

/-- 'laws.FnExactEncodeFrame', WHERE WHAT IT READS IS OF BULK AT MOST 1048576: true; the input reads as it did. -/
def fnExactEncodeFrameUptoRow : OpenClaim := { program := "ytopgjanpbfnlnaa", sum := "2d930c6246c74b90552b276e5b5dc991f419077204df9f4be4b4aaae6a880fd6", func := "loop.example/g00903/laws.FnExactEncodeFrame", spec := "fnExactEncodeFrame", inPlace := ["internal/abi.NoEscape", "internal/bytealg.MakeNoZero"], apart := false, narrowed := true }
def FnExactEncodeFrameUptoSaid : Prop := fnExactEncodeFrameUptoRow.holds Try.pinned (OpenSpec.upto fnExactEncodeFrameSpec)

/-- 'laws.FnExactStoreSignal', WHERE WHAT IT READS IS OF BULK AT MOST 1048576: true; the input reads as it did. -/
def fnExactStoreSignalUptoRow : OpenClaim := { program := "ytopgjanpbfnlnaa", sum := "2d930c6246c74b90552b276e5b5dc991f419077204df9f4be4b4aaae6a880fd6", func := "loop.example/g00903/laws.FnExactStoreSignal", spec := "fnExactStoreSignal", inPlace := ["internal/abi.NoEscape", "internal/bytealg.MakeNoZero"], apart := false, narrowed := true }
def FnExactStoreSignalUptoSaid : Prop := fnExactStoreSignalUptoRow.holds Try.pinned (OpenSpec.upto fnExactStoreSignalSpec)

/-- 'laws.FnExactReplaceFrame', WHERE WHAT IT READS IS OF BULK AT MOST 1048576: true; the input reads as it did. -/
def fnExactReplaceFrameUptoRow : OpenClaim := { program := "ytopgjanpbfnlnaa", sum := "2d930c6246c74b90552b276e5b5dc991f419077204df9f4be4b4aaae6a880fd6", func := "loop.example/g00903/laws.FnExactReplaceFrame", spec := "fnExactReplaceFrame", inPlace := ["internal/abi.NoEscape", "internal/bytealg.MakeNoZero"], apart := false, narrowed := true }
def FnExactReplaceFrameUptoSaid : Prop := fnExactReplaceFrameUptoRow.holds Try.pinned (OpenSpec.upto fnExactReplaceFrameSpec)

/-- 'laws.FnExactLoadFrame', WHERE WHAT IT READS IS OF BULK AT MOST 1048576: true; the input reads as it did. -/
def fnExactLoadFrameUptoRow : OpenClaim := { program := "ytopgjanpbfnlnaa", sum := "2d930c6246c74b90552b276e5b5dc991f419077204df9f4be4b4aaae6a880fd6", func := "loop.example/g00903/laws.FnExactLoadFrame", spec := "fnExactLoadFrame", inPlace := ["internal/abi.NoEscape", "internal/bytealg.IndexByteString", "internal/bytealg.IndexString"], named := ["internal/bytealg.MaxLen"], apart := false, narrowed := true }
def FnExactLoadFrameUptoSaid : Prop := fnExactLoadFrameUptoRow.holds Try.pinned (OpenSpec.upto fnExactLoadFrameSpec)

/-- 'laws.FnExactLoadSignal', WHERE WHAT IT READS IS OF BULK AT MOST 1048576: true; the input reads as it did. -/
def fnExactLoadSignalUptoRow : OpenClaim := { program := "ytopgjanpbfnlnaa", sum := "2d930c6246c74b90552b276e5b5dc991f419077204df9f4be4b4aaae6a880fd6", func := "loop.example/g00903/laws.FnExactLoadSignal", spec := "fnExactLoadSignal", inPlace := ["internal/abi.NoEscape", "internal/bytealg.IndexByteString", "internal/bytealg.IndexString"], named := ["internal/bytealg.MaxLen"], apart := false, narrowed := true }
def FnExactLoadSignalUptoSaid : Prop := fnExactLoadSignalUptoRow.holds Try.pinned (OpenSpec.upto fnExactLoadSignalSpec)

/-- 'laws.FnFrames', WHERE WHAT IT READS IS OF BULK AT MOST 1048576: true; the input reads as it did. -/
def fnFramesUptoRow : OpenClaim := { program := "ytopgjanpbfnlnaa", sum := "2d930c6246c74b90552b276e5b5dc991f419077204df9f4be4b4aaae6a880fd6", func := "loop.example/g00903/laws.FnFrames", spec := "fnFrames", inPlace := ["internal/abi.NoEscape", "internal/bytealg.MakeNoZero", "internal/bytealg.IndexByteString", "internal/bytealg.IndexString"], named := ["internal/bytealg.MaxLen"], apart := false, narrowed := true }
def FnFramesUptoSaid : Prop := fnFramesUptoRow.holds Try.pinned (OpenSpec.upto fnFramesSpec)

/-- 'laws.FnExactLoadRange', WHERE WHAT IT READS IS OF BULK AT MOST 1048576: true; the input reads as it did. -/
def fnExactLoadRangeUptoRow : OpenClaim := { program := "ytopgjanpbfnlnaa", sum := "2d930c6246c74b90552b276e5b5dc991f419077204df9f4be4b4aaae6a880fd6", func := "loop.example/g00903/laws.FnExactLoadRange", spec := "fnExactLoadRange", inPlace := ["internal/abi.NoEscape", "internal/bytealg.IndexByteString", "internal/bytealg.IndexString"], named := ["internal/bytealg.MaxLen"], apart := false, narrowed := true }
def FnExactLoadRangeUptoSaid : Prop := fnExactLoadRangeUptoRow.holds Try.pinned (OpenSpec.upto fnExactLoadRangeSpec)

/-- 'laws.FnExactDamagedFrames', WHERE WHAT IT READS IS OF BULK AT MOST 1048576: true; the input reads as it did. -/
def fnExactDamagedFramesUptoRow : OpenClaim := { program := "ytopgjanpbfnlnaa", sum := "2d930c6246c74b90552b276e5b5dc991f419077204df9f4be4b4aaae6a880fd6", func := "loop.example/g00903/laws.FnExactDamagedFrames", spec := "fnExactDamagedFrames", inPlace := ["internal/abi.NoEscape", "internal/bytealg.IndexByteString", "internal/bytealg.IndexString"], named := ["internal/bytealg.MaxLen"], apart := false, narrowed := true }
def FnExactDamagedFramesUptoSaid : Prop := fnExactDamagedFramesUptoRow.holds Try.pinned (OpenSpec.upto fnExactDamagedFramesSpec)

/-- 'laws.FnExactSalvageSignal', WHERE WHAT IT READS IS OF BULK AT MOST 1048576: true; the input reads as it did. -/
def fnExactSalvageSignalUptoRow : OpenClaim := { program := "ytopgjanpbfnlnaa", sum := "2d930c6246c74b90552b276e5b5dc991f419077204df9f4be4b4aaae6a880fd6", func := "loop.example/g00903/laws.FnExactSalvageSignal", spec := "fnExactSalvageSignal", inPlace := ["internal/abi.NoEscape", "internal/bytealg.IndexByteString", "internal/bytealg.IndexString"], named := ["internal/bytealg.MaxLen"], apart := false, narrowed := true }
def FnExactSalvageSignalUptoSaid : Prop := fnExactSalvageSignalUptoRow.holds Try.pinned (OpenSpec.upto fnExactSalvageSignalSpec)

/-- 'laws.FnDamage', WHERE WHAT IT READS IS OF BULK AT MOST 1048576: true; the input reads as it did. -/
def fnDamageUptoRow : OpenClaim := { program := "ytopgjanpbfnlnaa", sum := "2d930c6246c74b90552b276e5b5dc991f419077204df9f4be4b4aaae6a880fd6", func := "loop.example/g00903/laws.FnDamage", spec := "fnDamage", inPlace := ["internal/abi.NoEscape", "internal/bytealg.IndexByteString", "internal/bytealg.IndexString"], named := ["internal/bytealg.MaxLen"], apart := false, narrowed := true }
def FnDamageUptoSaid : Prop := fnDamageUptoRow.holds Try.pinned (OpenSpec.upto fnDamageSpec)

end Rows
end Go.Proofs.Ytopgjanpbfnlnaa
