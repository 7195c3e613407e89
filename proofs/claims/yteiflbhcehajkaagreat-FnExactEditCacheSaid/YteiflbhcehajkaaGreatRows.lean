/-
  No cell of these rows narrows 'for every input' (looked for: loops, veiled, ifaces, maps, wideKeys, modest, calm, conditions, laid).
  DERIVED. THE GIVEN ROWS OF THIS SEAT. 3 by the template 'for every input the law returns true; each argument reads behind the call as it read before'; 0 by the template 'total and deterministic' (their statements: YteiflbhcehajkaaGreatTotals.lean).
  GIVEN WITH THE SEED: the statements are not yours to turn. If you find one false, say at which input.
  Laid BY PROGRAM, IN A SANDBOX (cutbox-rows.mjs): the forced cells as the released guide's own fill.sh prints them over the translation bc032e72e103059a… (all of the seat's roots in one cut). By AI agents, Wed Nov 11 2026. No macro, syntax, notation, axiom, sorry.
-/
import Derived.Test.YteiflbhcehajkaaGreatChecked
import GoSem.Claim
import GoSem.ClaimJoined
import GoSem.ClaimMapViews
import Derived.JoinedTies
import Derived.KernelRfl
namespace Go.Proofs.YteiflbhcehajkaaGreat
/- THE CELL 'sum', in the pinned program and in every row, IS THE sha256 OF THE DUMP (.gsa) THAT YteiflbhcehajkaaGreatProg.lean LOADS. Nothing in Lean hashes anything: it is a label: what it is worth is what the hold of that sum in a sandbox is worth. -/
noncomputable def Tryz.pinned : Pinned := { name := "yteiflbhcehajkaagreat", sum := "bc032e72e103059a2f29ac85aea1807679ea749eb50346b7760c6fcf3417d69c", checked := Tryz.checked }
namespace Rows
def none {H : Type} : Left H := { results := [], args := [] }

/-- 'laws.FnExactSoundCache': WHATEVER THE INPUT: true; the input reads as it did. -/
def fnExactSoundCacheSpec : ChangeSpec := { name := "fnExactSoundCache", fn := fun _ => fun
  | [d] => { results := [.lit (.bool true)], args := [d] }
  | _ => none }
def fnExactSoundCacheRow : OpenClaim := { program := "yteiflbhcehajkaagreat", sum := "bc032e72e103059a2f29ac85aea1807679ea749eb50346b7760c6fcf3417d69c", func := "loop.example/g00903/laws.FnExactSoundCache", spec := "fnExactSoundCache", unfollowed := true, recurses := true, apart := false }
def FnExactSoundCacheSaid : Prop := fnExactSoundCacheRow.holds Tryz.pinned (OpenSpec.ofChange fnExactSoundCacheSpec)

/-- ITS FALSE NEIGHBOUR: 'it returns false'. Refute it at one input. -/
def fnExactSoundCacheWrong : ChangeSpec := { name := "fnExactSoundCache", fn := fun _ => fun
  | [d] => { results := [.lit (.bool false)], args := [d] }
  | _ => none }
def FnExactSoundCacheWrongFalsely : Prop := fnExactSoundCacheRow.holds Tryz.pinned (OpenSpec.ofChange fnExactSoundCacheWrong)

/-- 'laws.FnExactMakeCache': WHATEVER THE INPUT: true; the input reads as it did. -/
def fnExactMakeCacheSpec : ChangeSpec := { name := "fnExactMakeCache", fn := fun _ => fun
  | [d] => { results := [.lit (.bool true)], args := [d] }
  | _ => none }
def fnExactMakeCacheRow : OpenClaim := { program := "yteiflbhcehajkaagreat", sum := "bc032e72e103059a2f29ac85aea1807679ea749eb50346b7760c6fcf3417d69c", func := "loop.example/g00903/laws.FnExactMakeCache", spec := "fnExactMakeCache", unfollowed := true, recurses := true, apart := false }
def FnExactMakeCacheSaid : Prop := fnExactMakeCacheRow.holds Tryz.pinned (OpenSpec.ofChange fnExactMakeCacheSpec)

/-- ITS FALSE NEIGHBOUR: 'it returns false'. Refute it at one input. -/
def fnExactMakeCacheWrong : ChangeSpec := { name := "fnExactMakeCache", fn := fun _ => fun
  | [d] => { results := [.lit (.bool false)], args := [d] }
  | _ => none }
def FnExactMakeCacheWrongFalsely : Prop := fnExactMakeCacheRow.holds Tryz.pinned (OpenSpec.ofChange fnExactMakeCacheWrong)

/-- 'laws.FnExactEditCache': WHATEVER THE INPUT: true; the input reads as it did. -/
def fnExactEditCacheSpec : ChangeSpec := { name := "fnExactEditCache", fn := fun _ => fun
  | [d1, d2] => { results := [.lit (.bool true)], args := [d1, d2] }
  | _ => none }
def fnExactEditCacheRow : OpenClaim := { program := "yteiflbhcehajkaagreat", sum := "bc032e72e103059a2f29ac85aea1807679ea749eb50346b7760c6fcf3417d69c", func := "loop.example/g00903/laws.FnExactEditCache", spec := "fnExactEditCache", inPlace := ["slices.overlaps[loop.example/g00903/impl.Clip]"], unfollowed := true, recurses := true, apart := false }
def FnExactEditCacheSaid : Prop := fnExactEditCacheRow.holds Tryz.pinned (OpenSpec.ofChange fnExactEditCacheSpec)

/-- ITS FALSE NEIGHBOUR: 'it returns false'. Refute it at one input. -/
def fnExactEditCacheWrong : ChangeSpec := { name := "fnExactEditCache", fn := fun _ => fun
  | [d1, d2] => { results := [.lit (.bool false)], args := [d1, d2] }
  | _ => none }
def FnExactEditCacheWrongFalsely : Prop := fnExactEditCacheRow.holds Tryz.pinned (OpenSpec.ofChange fnExactEditCacheWrong)

/- THE SECOND FORM. 'bulk': how many values and letters a reading holds, each counted each time it is reached (what is shared counts as often as it is met; a slice's spare places count too). A statement '..UptoSaid' is the law's where the arguments, and the package variables that the reading takes, are together of bulk at most 1048576: NARROWER than '..Said'. Prove '..Said' where nothing that the law and all that it calls make is longer than what came in: it says more and counts as full. Else prove '..UptoSaid'. A law counts once. -/
mutual
def uptoBulk {H : Type} : DataW H → Nat
  | .lit (.string bytes) => bytes.length + 1
  | .lit _ => 1
  | .nil => 1
  | .ptr d => uptoBulk d + 1
  | .slice elems spare => uptoBulkAll elems + uptoBulkAll spare + 1
  | .agg parts => uptoBulkAll parts + 1
  | .iface _ d => uptoBulk d + 1
  | .map entries => uptoBulkEntries entries + 1
  | .held _ => 1
def uptoBulkAll {H : Type} : List (DataW H) → Nat
  | [] => 0
  | d :: r => uptoBulk d + uptoBulkAll r
def uptoBulkEntries {H : Type} : List (Lit × DataW H) → Nat
  | [] => 0
  | x :: r => uptoBulkEntry x + uptoBulkEntries r
def uptoBulkEntry {H : Type} : Lit × DataW H → Nat
  | (.string bytes, d) => bytes.length + uptoBulk d + 1
  | (_, d) => uptoBulk d + 1
 end
def uptoSmall : (H : Type) → List (DataW H) → Bool := fun _ ds => decide (uptoBulkAll ds ≤ 1048576)
def OpenSpec.upto (s : _root_.Go.ChangeSpec) : _root_.Go.OpenSpec := { _root_.Go.OpenSpec.ofChange s with cond := some uptoSmall }

/-- 'laws.FnExactSoundCache', WHERE WHAT IT READS IS OF BULK AT MOST 1048576: true; the input reads as it did. -/
def fnExactSoundCacheUptoRow : OpenClaim := { program := "yteiflbhcehajkaagreat", sum := "bc032e72e103059a2f29ac85aea1807679ea749eb50346b7760c6fcf3417d69c", func := "loop.example/g00903/laws.FnExactSoundCache", spec := "fnExactSoundCache", unfollowed := true, recurses := true, apart := false, narrowed := true }
def FnExactSoundCacheUptoSaid : Prop := fnExactSoundCacheUptoRow.holds Tryz.pinned (OpenSpec.upto fnExactSoundCacheSpec)

/-- 'laws.FnExactMakeCache', WHERE WHAT IT READS IS OF BULK AT MOST 1048576: true; the input reads as it did. -/
def fnExactMakeCacheUptoRow : OpenClaim := { program := "yteiflbhcehajkaagreat", sum := "bc032e72e103059a2f29ac85aea1807679ea749eb50346b7760c6fcf3417d69c", func := "loop.example/g00903/laws.FnExactMakeCache", spec := "fnExactMakeCache", unfollowed := true, recurses := true, apart := false, narrowed := true }
def FnExactMakeCacheUptoSaid : Prop := fnExactMakeCacheUptoRow.holds Tryz.pinned (OpenSpec.upto fnExactMakeCacheSpec)

/-- 'laws.FnExactEditCache', WHERE WHAT IT READS IS OF BULK AT MOST 1048576: true; the input reads as it did. -/
def fnExactEditCacheUptoRow : OpenClaim := { program := "yteiflbhcehajkaagreat", sum := "bc032e72e103059a2f29ac85aea1807679ea749eb50346b7760c6fcf3417d69c", func := "loop.example/g00903/laws.FnExactEditCache", spec := "fnExactEditCache", inPlace := ["slices.overlaps[loop.example/g00903/impl.Clip]"], unfollowed := true, recurses := true, apart := false, narrowed := true }
def FnExactEditCacheUptoSaid : Prop := fnExactEditCacheUptoRow.holds Tryz.pinned (OpenSpec.upto fnExactEditCacheSpec)

end Rows
end Go.Proofs.YteiflbhcehajkaaGreat
