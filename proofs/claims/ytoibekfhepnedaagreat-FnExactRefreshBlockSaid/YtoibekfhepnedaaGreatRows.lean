/-
  No cell of these rows narrows 'for every input' (looked for: loops, veiled, ifaces, maps, wideKeys, modest, calm, conditions, laid).
  DERIVED. THE GIVEN ROWS OF THIS SEAT. 6 by the template 'for every input the law returns true; each argument reads behind the call as it read before'; 0 by the template 'total and deterministic' (their statements: YtoibekfhepnedaaGreatTotals.lean).
  GIVEN WITH THE SEED: the statements are not yours to turn. If you find one false, say at which input.
  Laid BY PROGRAM, IN A SANDBOX (cutbox-rows.mjs): the forced cells as the released guide's own fill.sh prints them over the translation 51d6c7a2a3a80802… (all of the seat's roots in one cut). By AI agents, Wed Nov 11 2026. No macro, syntax, notation, axiom, sorry.
-/
import Derived.Test.YtoibekfhepnedaaGreatChecked
import GoSem.Claim
import GoSem.ClaimJoined
import GoSem.ClaimMapViews
import Derived.JoinedTies
import Derived.KernelRfl
namespace Go.Proofs.YtoibekfhepnedaaGreat
/- THE CELL 'sum', in the pinned program and in every row, IS THE sha256 OF THE DUMP (.gsa) THAT YtoibekfhepnedaaGreatProg.lean LOADS. Nothing in Lean hashes anything: it is a label: what it is worth is what the hold of that sum in a sandbox is worth. -/
noncomputable def Tryz.pinned : Pinned := { name := "ytoibekfhepnedaagreat", sum := "51d6c7a2a3a80802e906c64535e86102c8dfe7edd4a0823cb18aa2af667223fe", checked := Tryz.checked }
namespace Rows
def none {H : Type} : Left H := { results := [], args := [] }

/-- 'laws.FnUndone': WHATEVER THE INPUT: true; the input reads as it did. -/
def fnUndoneSpec : ChangeSpec := { name := "fnUndone", fn := fun _ => fun
  | [d] => { results := [.lit (.bool true)], args := [d] }
  | _ => none }
def fnUndoneRow : OpenClaim := { program := "ytoibekfhepnedaagreat", sum := "51d6c7a2a3a80802e906c64535e86102c8dfe7edd4a0823cb18aa2af667223fe", func := "loop.example/g00903/laws.FnUndone", spec := "fnUndone", inPlace := ["slices.overlaps[loop.example/g00903/impl.Clip]"], unfollowed := true, recurses := true, apart := false }
def FnUndoneSaid : Prop := fnUndoneRow.holds Tryz.pinned (OpenSpec.ofChange fnUndoneSpec)

/-- ITS FALSE NEIGHBOUR: 'it returns false'. Refute it at one input. -/
def fnUndoneWrong : ChangeSpec := { name := "fnUndone", fn := fun _ => fun
  | [d] => { results := [.lit (.bool false)], args := [d] }
  | _ => none }
def FnUndoneWrongFalsely : Prop := fnUndoneRow.holds Tryz.pinned (OpenSpec.ofChange fnUndoneWrong)

/-- 'laws.FnEdits': WHATEVER THE INPUT: true; the input reads as it did. -/
def fnEditsSpec : ChangeSpec := { name := "fnEdits", fn := fun _ => fun
  | [d] => { results := [.lit (.bool true)], args := [d] }
  | _ => none }
def fnEditsRow : OpenClaim := { program := "ytoibekfhepnedaagreat", sum := "51d6c7a2a3a80802e906c64535e86102c8dfe7edd4a0823cb18aa2af667223fe", func := "loop.example/g00903/laws.FnEdits", spec := "fnEdits", inPlace := ["slices.overlaps[loop.example/g00903/impl.Clip]"], unfollowed := true, recurses := true, apart := false }
def FnEditsSaid : Prop := fnEditsRow.holds Tryz.pinned (OpenSpec.ofChange fnEditsSpec)

/-- ITS FALSE NEIGHBOUR: 'it returns false'. Refute it at one input. -/
def fnEditsWrong : ChangeSpec := { name := "fnEdits", fn := fun _ => fun
  | [d] => { results := [.lit (.bool false)], args := [d] }
  | _ => none }
def FnEditsWrongFalsely : Prop := fnEditsRow.holds Tryz.pinned (OpenSpec.ofChange fnEditsWrong)

/-- 'laws.FnExactSoundCache': WHATEVER THE INPUT: true; the input reads as it did. -/
def fnExactSoundCacheSpec : ChangeSpec := { name := "fnExactSoundCache", fn := fun _ => fun
  | [d] => { results := [.lit (.bool true)], args := [d] }
  | _ => none }
def fnExactSoundCacheRow : OpenClaim := { program := "ytoibekfhepnedaagreat", sum := "51d6c7a2a3a80802e906c64535e86102c8dfe7edd4a0823cb18aa2af667223fe", func := "loop.example/g00903/laws.FnExactSoundCache", spec := "fnExactSoundCache", unfollowed := true, recurses := true, apart := false }
def FnExactSoundCacheSaid : Prop := fnExactSoundCacheRow.holds Tryz.pinned (OpenSpec.ofChange fnExactSoundCacheSpec)

/-- ITS FALSE NEIGHBOUR: 'it returns false'. Refute it at one input. -/
def fnExactSoundCacheWrong : ChangeSpec := { name := "fnExactSoundCache", fn := fun _ => fun
  | [d] => { results := [.lit (.bool false)], args := [d] }
  | _ => none }
def FnExactSoundCacheWrongFalsely : Prop := fnExactSoundCacheRow.holds Tryz.pinned (OpenSpec.ofChange fnExactSoundCacheWrong)

/-- 'laws.FnExactMakeCache': WHATEVER THE INPUT: true; the input reads as it did. -/
def fnExactMakeCacheSpec : ChangeSpec := { name := "fnExactMakeCache", fn := fun _ => fun
  | [d] => { results := [.lit (.bool true)], args := [d] }
  | _ => none }
def fnExactMakeCacheRow : OpenClaim := { program := "ytoibekfhepnedaagreat", sum := "51d6c7a2a3a80802e906c64535e86102c8dfe7edd4a0823cb18aa2af667223fe", func := "loop.example/g00903/laws.FnExactMakeCache", spec := "fnExactMakeCache", unfollowed := true, recurses := true, apart := false }
def FnExactMakeCacheSaid : Prop := fnExactMakeCacheRow.holds Tryz.pinned (OpenSpec.ofChange fnExactMakeCacheSpec)

/-- ITS FALSE NEIGHBOUR: 'it returns false'. Refute it at one input. -/
def fnExactMakeCacheWrong : ChangeSpec := { name := "fnExactMakeCache", fn := fun _ => fun
  | [d] => { results := [.lit (.bool false)], args := [d] }
  | _ => none }
def FnExactMakeCacheWrongFalsely : Prop := fnExactMakeCacheRow.holds Tryz.pinned (OpenSpec.ofChange fnExactMakeCacheWrong)

/-- 'laws.FnExactRefreshAll': WHATEVER THE INPUT: true; the input reads as it did. -/
def fnExactRefreshAllSpec : ChangeSpec := { name := "fnExactRefreshAll", fn := fun _ => fun
  | [d] => { results := [.lit (.bool true)], args := [d] }
  | _ => none }
def fnExactRefreshAllRow : OpenClaim := { program := "ytoibekfhepnedaagreat", sum := "51d6c7a2a3a80802e906c64535e86102c8dfe7edd4a0823cb18aa2af667223fe", func := "loop.example/g00903/laws.FnExactRefreshAll", spec := "fnExactRefreshAll", unfollowed := true, recurses := true, apart := false }
def FnExactRefreshAllSaid : Prop := fnExactRefreshAllRow.holds Tryz.pinned (OpenSpec.ofChange fnExactRefreshAllSpec)

/-- ITS FALSE NEIGHBOUR: 'it returns false'. Refute it at one input. -/
def fnExactRefreshAllWrong : ChangeSpec := { name := "fnExactRefreshAll", fn := fun _ => fun
  | [d] => { results := [.lit (.bool false)], args := [d] }
  | _ => none }
def FnExactRefreshAllWrongFalsely : Prop := fnExactRefreshAllRow.holds Tryz.pinned (OpenSpec.ofChange fnExactRefreshAllWrong)

/-- 'laws.FnExactRefreshBlock': WHATEVER THE INPUT: true; the input reads as it did. -/
def fnExactRefreshBlockSpec : ChangeSpec := { name := "fnExactRefreshBlock", fn := fun _ => fun
  | [d1, d2] => { results := [.lit (.bool true)], args := [d1, d2] }
  | _ => none }
def fnExactRefreshBlockRow : OpenClaim := { program := "ytoibekfhepnedaagreat", sum := "51d6c7a2a3a80802e906c64535e86102c8dfe7edd4a0823cb18aa2af667223fe", func := "loop.example/g00903/laws.FnExactRefreshBlock", spec := "fnExactRefreshBlock", unfollowed := true, recurses := true, apart := false }
def FnExactRefreshBlockSaid : Prop := fnExactRefreshBlockRow.holds Tryz.pinned (OpenSpec.ofChange fnExactRefreshBlockSpec)

/-- ITS FALSE NEIGHBOUR: 'it returns false'. Refute it at one input. -/
def fnExactRefreshBlockWrong : ChangeSpec := { name := "fnExactRefreshBlock", fn := fun _ => fun
  | [d1, d2] => { results := [.lit (.bool false)], args := [d1, d2] }
  | _ => none }
def FnExactRefreshBlockWrongFalsely : Prop := fnExactRefreshBlockRow.holds Tryz.pinned (OpenSpec.ofChange fnExactRefreshBlockWrong)

/- THE SECOND FORM. 'bulk': how many values and letters a reading holds, each counted each time it is reached (what is shared counts as often as it is met; a slice's spare places count too). A statement '..UptoSaid' is the law's where the arguments, and the package variables that the reading takes, are together of bulk at most 1048576: NARROWER than '..Said'. Prove '..Said' where nothing that the law and all that it calls make is longer than what came in: it says more and counts as full. Else prove '..UptoSaid'. A law counts once. -/
mutual
def uptoBulk {H : Type} : DataW H → Nat
  | .lit (.string bytes) => bytes.length + 1
  | .lit _ => 1
  | .nil => 1
  | .ptr d => uptoBulk d + 1
  | .slice elems spare => uptoBulkAll elems + uptoBulkAll spare + 1
  | .agg parts => uptoBulkAll parts + 1
  | .iface _ d => uptoBulk d + 1
  | .map entries => uptoBulkEntries entries + 1
  | .held _ => 1
def uptoBulkAll {H : Type} : List (DataW H) → Nat
  | [] => 0
  | d :: r => uptoBulk d + uptoBulkAll r
def uptoBulkEntries {H : Type} : List (Lit × DataW H) → Nat
  | [] => 0
  | x :: r => uptoBulkEntry x + uptoBulkEntries r
def uptoBulkEntry {H : Type} : Lit × DataW H → Nat
  | (.string bytes, d) => bytes.length + uptoBulk d + 1
  | (_, d) => uptoBulk d + 1
 end
def uptoSmall : (H : Type) → List (DataW H) → Bool := fun _ ds => decide (uptoBulkAll ds ≤ 1048576)
def OpenSpec.upto (s : _root_.Go.ChangeSpec) : _root_.Go.OpenSpec := { _root_.Go.OpenSpec.ofChange s with cond := some uptoSmall }

/-- 'laws.FnUndone', WHERE WHAT IT READS IS OF BULK AT MOST 1048576: true; the input reads as it did. -/
def fnUndoneUptoRow : OpenClaim := { program := "ytoibekfhepnedaagreat", sum := "51d6c7a2a3a80802e906c64535e86102c8dfe7edd4a0823cb18aa2af667223fe", func := "loop.example/g00903/laws.FnUndone", spec := "fnUndone", inPlace := ["slices.overlaps[loop.example/g00903/impl.Clip]"], unfollowed := true, recurses := true, apart := false, narrowed := true }
def FnUndoneUptoSaid : Prop := fnUndoneUptoRow.holds Tryz.pinned (OpenSpec.upto fnUndoneSpec)

/-- 'laws.FnEdits', WHERE WHAT IT READS IS OF BULK AT MOST 1048576: true; the input reads as it did. -/
def fnEditsUptoRow : OpenClaim := { program := "ytoibekfhepnedaagreat", sum := "51d6c7a2a3a80802e906c64535e86102c8dfe7edd4a0823cb18aa2af667223fe", func := "loop.example/g00903/laws.FnEdits", spec := "fnEdits", inPlace := ["slices.overlaps[loop.example/g00903/impl.Clip]"], unfollowed := true, recurses := true, apart := false, narrowed := true }
def FnEditsUptoSaid : Prop := fnEditsUptoRow.holds Tryz.pinned (OpenSpec.upto fnEditsSpec)

/-- 'laws.FnExactSoundCache', WHERE WHAT IT READS IS OF BULK AT MOST 1048576: true; the input reads as it did. -/
def fnExactSoundCacheUptoRow : OpenClaim := { program := "ytoibekfhepnedaagreat", sum := "51d6c7a2a3a80802e906c64535e86102c8dfe7edd4a0823cb18aa2af667223fe", func := "loop.example/g00903/laws.FnExactSoundCache", spec := "fnExactSoundCache", unfollowed := true, recurses := true, apart := false, narrowed := true }
def FnExactSoundCacheUptoSaid : Prop := fnExactSoundCacheUptoRow.holds Tryz.pinned (OpenSpec.upto fnExactSoundCacheSpec)

/-- 'laws.FnExactMakeCache', WHERE WHAT IT READS IS OF BULK AT MOST 1048576: true; the input reads as it did. -/
def fnExactMakeCacheUptoRow : OpenClaim := { program := "ytoibekfhepnedaagreat", sum := "51d6c7a2a3a80802e906c64535e86102c8dfe7edd4a0823cb18aa2af667223fe", func := "loop.example/g00903/laws.FnExactMakeCache", spec := "fnExactMakeCache", unfollowed := true, recurses := true, apart := false, narrowed := true }
def FnExactMakeCacheUptoSaid : Prop := fnExactMakeCacheUptoRow.holds Tryz.pinned (OpenSpec.upto fnExactMakeCacheSpec)

/-- 'laws.FnExactRefreshAll', WHERE WHAT IT READS IS OF BULK AT MOST 1048576: true; the input reads as it did. -/
def fnExactRefreshAllUptoRow : OpenClaim := { program := "ytoibekfhepnedaagreat", sum := "51d6c7a2a3a80802e906c64535e86102c8dfe7edd4a0823cb18aa2af667223fe", func := "loop.example/g00903/laws.FnExactRefreshAll", spec := "fnExactRefreshAll", unfollowed := true, recurses := true, apart := false, narrowed := true }
def FnExactRefreshAllUptoSaid : Prop := fnExactRefreshAllUptoRow.holds Tryz.pinned (OpenSpec.upto fnExactRefreshAllSpec)

/-- 'laws.FnExactRefreshBlock', WHERE WHAT IT READS IS OF BULK AT MOST 1048576: true; the input reads as it did. -/
def fnExactRefreshBlockUptoRow : OpenClaim := { program := "ytoibekfhepnedaagreat", sum := "51d6c7a2a3a80802e906c64535e86102c8dfe7edd4a0823cb18aa2af667223fe", func := "loop.example/g00903/laws.FnExactRefreshBlock", spec := "fnExactRefreshBlock", unfollowed := true, recurses := true, apart := false, narrowed := true }
def FnExactRefreshBlockUptoSaid : Prop := fnExactRefreshBlockUptoRow.holds Tryz.pinned (OpenSpec.upto fnExactRefreshBlockSpec)

end Rows
end Go.Proofs.YtoibekfhepnedaaGreat
