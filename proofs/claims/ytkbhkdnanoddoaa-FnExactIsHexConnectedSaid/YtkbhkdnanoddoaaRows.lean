/-
  No cell of these rows narrows 'for every input' (looked for: loops, veiled, ifaces, maps, wideKeys, modest, calm, conditions, laid).
  DERIVED. THE GIVEN ROWS OF THIS SEAT. 12 by the template 'for every input the law returns true; each argument reads behind the call as it read before'; 0 by the template 'total and deterministic' (their statements: YtkbhkdnanoddoaaTotals.lean).
  GIVEN WITH THE SEED: the statements are not yours to turn. If you find one false, say at which input.
  Laid BY PROGRAM, IN A SANDBOX (cutbox-rows.mjs): the forced cells as the released guide's own fill.sh prints them over the translation 19e83a9dbda091b9… (all of the seat's roots in one cut). By AI agents, Wed Nov 11 2026. No macro, syntax, notation, axiom, sorry.
-/
import Derived.Test.YtkbhkdnanoddoaaChecked
import GoSem.Claim
import GoSem.ClaimJoined
import GoSem.ClaimMapViews
import Derived.JoinedTies
import Derived.KernelRfl
namespace Go.Proofs.Ytkbhkdnanoddoaa
/- THE CELL 'sum', in the pinned program and in every row, IS THE sha256 OF THE DUMP (.gsa) THAT YtkbhkdnanoddoaaProg.lean LOADS. Nothing in Lean hashes anything: it is a label: what it is worth is what the hold of that sum in a sandbox is worth. -/
noncomputable def Try.pinned : Pinned := { name := "ytkbhkdnanoddoaa", sum := "19e83a9dbda091b9497382d09d4c3a09165b9214ec26a8f5d5f60247771d82d2", checked := Try.checked }
namespace Rows
def none {H : Type} : Left H := { results := [], args := [] }

/-- 'laws.FnExactIsTriangle': WHATEVER THE INPUT: true; the input reads as it did. -/
def fnExactIsTriangleSpec : ChangeSpec := { name := "fnExactIsTriangle", fn := fun _ => fun
  | [d] => { results := [.lit (.bool true)], args := [d] }
  | _ => none }
def fnExactIsTriangleRow : OpenClaim := { program := "ytkbhkdnanoddoaa", sum := "19e83a9dbda091b9497382d09d4c3a09165b9214ec26a8f5d5f60247771d82d2", func := "loop.example/g00919/laws.FnExactIsTriangle", spec := "fnExactIsTriangle", plainKeys := false, apart := false }
def FnExactIsTriangleSaid : Prop := fnExactIsTriangleRow.holds Try.pinned (OpenSpec.ofChange fnExactIsTriangleSpec)

/-- ITS FALSE NEIGHBOUR: 'it returns false'. Refute it at one input. -/
def fnExactIsTriangleWrong : ChangeSpec := { name := "fnExactIsTriangle", fn := fun _ => fun
  | [d] => { results := [.lit (.bool false)], args := [d] }
  | _ => none }
def FnExactIsTriangleWrongFalsely : Prop := fnExactIsTriangleRow.holds Try.pinned (OpenSpec.ofChange fnExactIsTriangleWrong)

/-- 'laws.FnExactRectangleRegion': WHATEVER THE INPUT: true; the input reads as it did. -/
def fnExactRectangleRegionSpec : ChangeSpec := { name := "fnExactRectangleRegion", fn := fun _ => fun
  | [d1, d2] => { results := [.lit (.bool true)], args := [d1, d2] }
  | _ => none }
def fnExactRectangleRegionRow : OpenClaim := { program := "ytkbhkdnanoddoaa", sum := "19e83a9dbda091b9497382d09d4c3a09165b9214ec26a8f5d5f60247771d82d2", func := "loop.example/g00919/laws.FnExactRectangleRegion", spec := "fnExactRectangleRegion", plainKeys := false, apart := false }
def FnExactRectangleRegionSaid : Prop := fnExactRectangleRegionRow.holds Try.pinned (OpenSpec.ofChange fnExactRectangleRegionSpec)

/-- ITS FALSE NEIGHBOUR: 'it returns false'. Refute it at one input. -/
def fnExactRectangleRegionWrong : ChangeSpec := { name := "fnExactRectangleRegion", fn := fun _ => fun
  | [d1, d2] => { results := [.lit (.bool false)], args := [d1, d2] }
  | _ => none }
def FnExactRectangleRegionWrongFalsely : Prop := fnExactRectangleRegionRow.holds Try.pinned (OpenSpec.ofChange fnExactRectangleRegionWrong)

/-- 'laws.FnExactHexAround': WHATEVER THE INPUT: true; the input reads as it did. -/
def fnExactHexAroundSpec : ChangeSpec := { name := "fnExactHexAround", fn := fun _ => fun
  | [d] => { results := [.lit (.bool true)], args := [d] }
  | _ => none }
def fnExactHexAroundRow : OpenClaim := { program := "ytkbhkdnanoddoaa", sum := "19e83a9dbda091b9497382d09d4c3a09165b9214ec26a8f5d5f60247771d82d2", func := "loop.example/g00919/laws.FnExactHexAround", spec := "fnExactHexAround", plainKeys := false, apart := false }
def FnExactHexAroundSaid : Prop := fnExactHexAroundRow.holds Try.pinned (OpenSpec.ofChange fnExactHexAroundSpec)

/-- ITS FALSE NEIGHBOUR: 'it returns false'. Refute it at one input. -/
def fnExactHexAroundWrong : ChangeSpec := { name := "fnExactHexAround", fn := fun _ => fun
  | [d] => { results := [.lit (.bool false)], args := [d] }
  | _ => none }
def FnExactHexAroundWrongFalsely : Prop := fnExactHexAroundRow.holds Try.pinned (OpenSpec.ofChange fnExactHexAroundWrong)

/-- 'laws.FnExactDoOverlap': WHATEVER THE INPUT: true; the input reads as it did. -/
def fnExactDoOverlapSpec : ChangeSpec := { name := "fnExactDoOverlap", fn := fun _ => fun
  | [d1, d2] => { results := [.lit (.bool true)], args := [d1, d2] }
  | _ => none }
def fnExactDoOverlapRow : OpenClaim := { program := "ytkbhkdnanoddoaa", sum := "19e83a9dbda091b9497382d09d4c3a09165b9214ec26a8f5d5f60247771d82d2", func := "loop.example/g00919/laws.FnExactDoOverlap", spec := "fnExactDoOverlap", unfollowed := true, recurses := true, plainKeys := false, apart := false }
def FnExactDoOverlapSaid : Prop := fnExactDoOverlapRow.holds Try.pinned (OpenSpec.ofChange fnExactDoOverlapSpec)

/-- ITS FALSE NEIGHBOUR: 'it returns false'. Refute it at one input. -/
def fnExactDoOverlapWrong : ChangeSpec := { name := "fnExactDoOverlap", fn := fun _ => fun
  | [d1, d2] => { results := [.lit (.bool false)], args := [d1, d2] }
  | _ => none }
def FnExactDoOverlapWrongFalsely : Prop := fnExactDoOverlapRow.holds Try.pinned (OpenSpec.ofChange fnExactDoOverlapWrong)

/-- 'laws.FnExactComparePlacements': WHATEVER THE INPUT: true; the input reads as it did. -/
def fnExactComparePlacementsSpec : ChangeSpec := { name := "fnExactComparePlacements", fn := fun _ => fun
  | [d1, d2] => { results := [.lit (.bool true)], args := [d1, d2] }
  | _ => none }
def fnExactComparePlacementsRow : OpenClaim := { program := "ytkbhkdnanoddoaa", sum := "19e83a9dbda091b9497382d09d4c3a09165b9214ec26a8f5d5f60247771d82d2", func := "loop.example/g00919/laws.FnExactComparePlacements", spec := "fnExactComparePlacements", plainKeys := false, apart := false }
def FnExactComparePlacementsSaid : Prop := fnExactComparePlacementsRow.holds Try.pinned (OpenSpec.ofChange fnExactComparePlacementsSpec)

/-- ITS FALSE NEIGHBOUR: 'it returns false'. Refute it at one input. -/
def fnExactComparePlacementsWrong : ChangeSpec := { name := "fnExactComparePlacements", fn := fun _ => fun
  | [d1, d2] => { results := [.lit (.bool false)], args := [d1, d2] }
  | _ => none }
def FnExactComparePlacementsWrongFalsely : Prop := fnExactComparePlacementsRow.holds Try.pinned (OpenSpec.ofChange fnExactComparePlacementsWrong)

/-- 'laws.FnExactIsRegion': WHATEVER THE INPUT: true; the input reads as it did. -/
def fnExactIsRegionSpec : ChangeSpec := { name := "fnExactIsRegion", fn := fun _ => fun
  | [d] => { results := [.lit (.bool true)], args := [d] }
  | _ => none }
def fnExactIsRegionRow : OpenClaim := { program := "ytkbhkdnanoddoaa", sum := "19e83a9dbda091b9497382d09d4c3a09165b9214ec26a8f5d5f60247771d82d2", func := "loop.example/g00919/laws.FnExactIsRegion", spec := "fnExactIsRegion", plainKeys := false, apart := false }
def FnExactIsRegionSaid : Prop := fnExactIsRegionRow.holds Try.pinned (OpenSpec.ofChange fnExactIsRegionSpec)

/-- ITS FALSE NEIGHBOUR: 'it returns false'. Refute it at one input. -/
def fnExactIsRegionWrong : ChangeSpec := { name := "fnExactIsRegion", fn := fun _ => fun
  | [d] => { results := [.lit (.bool false)], args := [d] }
  | _ => none }
def FnExactIsRegionWrongFalsely : Prop := fnExactIsRegionRow.holds Try.pinned (OpenSpec.ofChange fnExactIsRegionWrong)

/-- 'laws.FnExactFaceCount': WHATEVER THE INPUT: true; the input reads as it did. -/
def fnExactFaceCountSpec : ChangeSpec := { name := "fnExactFaceCount", fn := fun _ => fun
  | [d] => { results := [.lit (.bool true)], args := [d] }
  | _ => none }
def fnExactFaceCountRow : OpenClaim := { program := "ytkbhkdnanoddoaa", sum := "19e83a9dbda091b9497382d09d4c3a09165b9214ec26a8f5d5f60247771d82d2", func := "loop.example/g00919/laws.FnExactFaceCount", spec := "fnExactFaceCount", plainKeys := false, apart := false }
def FnExactFaceCountSaid : Prop := fnExactFaceCountRow.holds Try.pinned (OpenSpec.ofChange fnExactFaceCountSpec)

/-- ITS FALSE NEIGHBOUR: 'it returns false'. Refute it at one input. -/
def fnExactFaceCountWrong : ChangeSpec := { name := "fnExactFaceCount", fn := fun _ => fun
  | [d] => { results := [.lit (.bool false)], args := [d] }
  | _ => none }
def FnExactFaceCountWrongFalsely : Prop := fnExactFaceCountRow.holds Try.pinned (OpenSpec.ofChange fnExactFaceCountWrong)

/-- 'laws.FnExactIsHexConnected': WHATEVER THE INPUT: true; the input reads as it did. -/
def fnExactIsHexConnectedSpec : ChangeSpec := { name := "fnExactIsHexConnected", fn := fun _ => fun
  | [d] => { results := [.lit (.bool true)], args := [d] }
  | _ => none }
def fnExactIsHexConnectedRow : OpenClaim := { program := "ytkbhkdnanoddoaa", sum := "19e83a9dbda091b9497382d09d4c3a09165b9214ec26a8f5d5f60247771d82d2", func := "loop.example/g00919/laws.FnExactIsHexConnected", spec := "fnExactIsHexConnected", unfollowed := true, recurses := true, plainKeys := false, apart := false }
def FnExactIsHexConnectedSaid : Prop := fnExactIsHexConnectedRow.holds Try.pinned (OpenSpec.ofChange fnExactIsHexConnectedSpec)

/-- ITS FALSE NEIGHBOUR: 'it returns false'. Refute it at one input. -/
def fnExactIsHexConnectedWrong : ChangeSpec := { name := "fnExactIsHexConnected", fn := fun _ => fun
  | [d] => { results := [.lit (.bool false)], args := [d] }
  | _ => none }
def FnExactIsHexConnectedWrongFalsely : Prop := fnExactIsHexConnectedRow.holds Try.pinned (OpenSpec.ofChange fnExactIsHexConnectedWrong)

/-- 'laws.FnExactIsSolid': WHATEVER THE INPUT: true; the input reads as it did. -/
def fnExactIsSolidSpec : ChangeSpec := { name := "fnExactIsSolid", fn := fun _ => fun
  | [d] => { results := [.lit (.bool true)], args := [d] }
  | _ => none }
def fnExactIsSolidRow : OpenClaim := { program := "ytkbhkdnanoddoaa", sum := "19e83a9dbda091b9497382d09d4c3a09165b9214ec26a8f5d5f60247771d82d2", func := "loop.example/g00919/laws.FnExactIsSolid", spec := "fnExactIsSolid", plainKeys := false, apart := false }
def FnExactIsSolidSaid : Prop := fnExactIsSolidRow.holds Try.pinned (OpenSpec.ofChange fnExactIsSolidSpec)

/-- ITS FALSE NEIGHBOUR: 'it returns false'. Refute it at one input. -/
def fnExactIsSolidWrong : ChangeSpec := { name := "fnExactIsSolid", fn := fun _ => fun
  | [d] => { results := [.lit (.bool false)], args := [d] }
  | _ => none }
def FnExactIsSolidWrongFalsely : Prop := fnExactIsSolidRow.holds Try.pinned (OpenSpec.ofChange fnExactIsSolidWrong)

/-- 'laws.FnExactCornerCount': WHATEVER THE INPUT: true; the input reads as it did. -/
def fnExactCornerCountSpec : ChangeSpec := { name := "fnExactCornerCount", fn := fun _ => fun
  | [d] => { results := [.lit (.bool true)], args := [d] }
  | _ => none }
def fnExactCornerCountRow : OpenClaim := { program := "ytkbhkdnanoddoaa", sum := "19e83a9dbda091b9497382d09d4c3a09165b9214ec26a8f5d5f60247771d82d2", func := "loop.example/g00919/laws.FnExactCornerCount", spec := "fnExactCornerCount", plainKeys := false, apart := false }
def FnExactCornerCountSaid : Prop := fnExactCornerCountRow.holds Try.pinned (OpenSpec.ofChange fnExactCornerCountSpec)

/-- ITS FALSE NEIGHBOUR: 'it returns false'. Refute it at one input. -/
def fnExactCornerCountWrong : ChangeSpec := { name := "fnExactCornerCount", fn := fun _ => fun
  | [d] => { results := [.lit (.bool false)], args := [d] }
  | _ => none }
def FnExactCornerCountWrongFalsely : Prop := fnExactCornerCountRow.holds Try.pinned (OpenSpec.ofChange fnExactCornerCountWrong)

/-- 'laws.FnExactLayersOf': WHATEVER THE INPUT: true; the input reads as it did. -/
def fnExactLayersOfSpec : ChangeSpec := { name := "fnExactLayersOf", fn := fun _ => fun
  | [d] => { results := [.lit (.bool true)], args := [d] }
  | _ => none }
def fnExactLayersOfRow : OpenClaim := { program := "ytkbhkdnanoddoaa", sum := "19e83a9dbda091b9497382d09d4c3a09165b9214ec26a8f5d5f60247771d82d2", func := "loop.example/g00919/laws.FnExactLayersOf", spec := "fnExactLayersOf", plainKeys := false, apart := false }
def FnExactLayersOfSaid : Prop := fnExactLayersOfRow.holds Try.pinned (OpenSpec.ofChange fnExactLayersOfSpec)

/-- ITS FALSE NEIGHBOUR: 'it returns false'. Refute it at one input. -/
def fnExactLayersOfWrong : ChangeSpec := { name := "fnExactLayersOf", fn := fun _ => fun
  | [d] => { results := [.lit (.bool false)], args := [d] }
  | _ => none }
def FnExactLayersOfWrongFalsely : Prop := fnExactLayersOfRow.holds Try.pinned (OpenSpec.ofChange fnExactLayersOfWrong)

/-- 'laws.FnLayers': WHATEVER THE INPUT: true; the input reads as it did. -/
def fnLayersSpec : ChangeSpec := { name := "fnLayers", fn := fun _ => fun
  | [d] => { results := [.lit (.bool true)], args := [d] }
  | _ => none }
def fnLayersRow : OpenClaim := { program := "ytkbhkdnanoddoaa", sum := "19e83a9dbda091b9497382d09d4c3a09165b9214ec26a8f5d5f60247771d82d2", func := "loop.example/g00919/laws.FnLayers", spec := "fnLayers", plainKeys := false, apart := false }
def FnLayersSaid : Prop := fnLayersRow.holds Try.pinned (OpenSpec.ofChange fnLayersSpec)

/-- ITS FALSE NEIGHBOUR: 'it returns false'. Refute it at one input. -/
def fnLayersWrong : ChangeSpec := { name := "fnLayers", fn := fun _ => fun
  | [d] => { results := [.lit (.bool false)], args := [d] }
  | _ => none }
def FnLayersWrongFalsely : Prop := fnLayersRow.holds Try.pinned (OpenSpec.ofChange fnLayersWrong)

/- THE SECOND FORM. 'bulk': how many values and letters a reading holds, each counted each time it is reached (what is shared counts as often as it is met; a slice's spare places count too). A statement '..UptoSaid' is the law's where the arguments, and the package variables that the reading takes, are together of bulk at most 1048576: NARROWER than '..Said'. Prove '..Said' where nothing that the law and all that it calls make is longer than what came in: it says more and counts as full. Else prove '..UptoSaid'. A law counts once. -/
mutual
def uptoBulk {H : Type} : DataW H → Nat
  | .lit (.string bytes) => bytes.length + 1
  | .lit _ => 1
  | .nil => 1
  | .ptr d => uptoBulk d + 1
  | .slice elems spare => uptoBulkAll elems + uptoBulkAll spare + 1
  | .agg parts => uptoBulkAll parts + 1
  | .iface _ d => uptoBulk d + 1
  | .map entries => uptoBulkEntries entries + 1
  | .held _ => 1
def uptoBulkAll {H : Type} : List (DataW H) → Nat
  | [] => 0
  | d :: r => uptoBulk d + uptoBulkAll r
def uptoBulkEntries {H : Type} : List (Lit × DataW H) → Nat
  | [] => 0
  | x :: r => uptoBulkEntry x + uptoBulkEntries r
def uptoBulkEntry {H : Type} : Lit × DataW H → Nat
  | (.string bytes, d) => bytes.length + uptoBulk d + 1
  | (_, d) => uptoBulk d + 1
 end
def uptoSmall : (H : Type) → List (DataW H) → Bool := fun _ ds => decide (uptoBulkAll ds ≤ 1048576)
def OpenSpec.upto (s : _root_.Go.ChangeSpec) : _root_.Go.OpenSpec := { _root_.Go.OpenSpec.ofChange s with cond := some uptoSmall }

/-- 'laws.FnExactIsTriangle', WHERE WHAT IT READS IS OF BULK AT MOST 1048576: true; the input reads as it did. -/
def fnExactIsTriangleUptoRow : OpenClaim := { program := "ytkbhkdnanoddoaa", sum := "19e83a9dbda091b9497382d09d4c3a09165b9214ec26a8f5d5f60247771d82d2", func := "loop.example/g00919/laws.FnExactIsTriangle", spec := "fnExactIsTriangle", plainKeys := false, apart := false, narrowed := true }
def FnExactIsTriangleUptoSaid : Prop := fnExactIsTriangleUptoRow.holds Try.pinned (OpenSpec.upto fnExactIsTriangleSpec)

/-- 'laws.FnExactRectangleRegion', WHERE WHAT IT READS IS OF BULK AT MOST 1048576: true; the input reads as it did. -/
def fnExactRectangleRegionUptoRow : OpenClaim := { program := "ytkbhkdnanoddoaa", sum := "19e83a9dbda091b9497382d09d4c3a09165b9214ec26a8f5d5f60247771d82d2", func := "loop.example/g00919/laws.FnExactRectangleRegion", spec := "fnExactRectangleRegion", plainKeys := false, apart := false, narrowed := true }
def FnExactRectangleRegionUptoSaid : Prop := fnExactRectangleRegionUptoRow.holds Try.pinned (OpenSpec.upto fnExactRectangleRegionSpec)

/-- 'laws.FnExactHexAround', WHERE WHAT IT READS IS OF BULK AT MOST 1048576: true; the input reads as it did. -/
def fnExactHexAroundUptoRow : OpenClaim := { program := "ytkbhkdnanoddoaa", sum := "19e83a9dbda091b9497382d09d4c3a09165b9214ec26a8f5d5f60247771d82d2", func := "loop.example/g00919/laws.FnExactHexAround", spec := "fnExactHexAround", plainKeys := false, apart := false, narrowed := true }
def FnExactHexAroundUptoSaid : Prop := fnExactHexAroundUptoRow.holds Try.pinned (OpenSpec.upto fnExactHexAroundSpec)

/-- 'laws.FnExactDoOverlap', WHERE WHAT IT READS IS OF BULK AT MOST 1048576: true; the input reads as it did. -/
def fnExactDoOverlapUptoRow : OpenClaim := { program := "ytkbhkdnanoddoaa", sum := "19e83a9dbda091b9497382d09d4c3a09165b9214ec26a8f5d5f60247771d82d2", func := "loop.example/g00919/laws.FnExactDoOverlap", spec := "fnExactDoOverlap", unfollowed := true, recurses := true, plainKeys := false, apart := false, narrowed := true }
def FnExactDoOverlapUptoSaid : Prop := fnExactDoOverlapUptoRow.holds Try.pinned (OpenSpec.upto fnExactDoOverlapSpec)

/-- 'laws.FnExactComparePlacements', WHERE WHAT IT READS IS OF BULK AT MOST 1048576: true; the input reads as it did. -/
def fnExactComparePlacementsUptoRow : OpenClaim := { program := "ytkbhkdnanoddoaa", sum := "19e83a9dbda091b9497382d09d4c3a09165b9214ec26a8f5d5f60247771d82d2", func := "loop.example/g00919/laws.FnExactComparePlacements", spec := "fnExactComparePlacements", plainKeys := false, apart := false, narrowed := true }
def FnExactComparePlacementsUptoSaid : Prop := fnExactComparePlacementsUptoRow.holds Try.pinned (OpenSpec.upto fnExactComparePlacementsSpec)

/-- 'laws.FnExactIsRegion', WHERE WHAT IT READS IS OF BULK AT MOST 1048576: true; the input reads as it did. -/
def fnExactIsRegionUptoRow : OpenClaim := { program := "ytkbhkdnanoddoaa", sum := "19e83a9dbda091b9497382d09d4c3a09165b9214ec26a8f5d5f60247771d82d2", func := "loop.example/g00919/laws.FnExactIsRegion", spec := "fnExactIsRegion", plainKeys := false, apart := false, narrowed := true }
def FnExactIsRegionUptoSaid : Prop := fnExactIsRegionUptoRow.holds Try.pinned (OpenSpec.upto fnExactIsRegionSpec)

/-- 'laws.FnExactFaceCount', WHERE WHAT IT READS IS OF BULK AT MOST 1048576: true; the input reads as it did. -/
def fnExactFaceCountUptoRow : OpenClaim := { program := "ytkbhkdnanoddoaa", sum := "19e83a9dbda091b9497382d09d4c3a09165b9214ec26a8f5d5f60247771d82d2", func := "loop.example/g00919/laws.FnExactFaceCount", spec := "fnExactFaceCount", plainKeys := false, apart := false, narrowed := true }
def FnExactFaceCountUptoSaid : Prop := fnExactFaceCountUptoRow.holds Try.pinned (OpenSpec.upto fnExactFaceCountSpec)

/-- 'laws.FnExactIsHexConnected', WHERE WHAT IT READS IS OF BULK AT MOST 1048576: true; the input reads as it did. -/
def fnExactIsHexConnectedUptoRow : OpenClaim := { program := "ytkbhkdnanoddoaa", sum := "19e83a9dbda091b9497382d09d4c3a09165b9214ec26a8f5d5f60247771d82d2", func := "loop.example/g00919/laws.FnExactIsHexConnected", spec := "fnExactIsHexConnected", unfollowed := true, recurses := true, plainKeys := false, apart := false, narrowed := true }
def FnExactIsHexConnectedUptoSaid : Prop := fnExactIsHexConnectedUptoRow.holds Try.pinned (OpenSpec.upto fnExactIsHexConnectedSpec)

/-- 'laws.FnExactIsSolid', WHERE WHAT IT READS IS OF BULK AT MOST 1048576: true; the input reads as it did. -/
def fnExactIsSolidUptoRow : OpenClaim := { program := "ytkbhkdnanoddoaa", sum := "19e83a9dbda091b9497382d09d4c3a09165b9214ec26a8f5d5f60247771d82d2", func := "loop.example/g00919/laws.FnExactIsSolid", spec := "fnExactIsSolid", plainKeys := false, apart := false, narrowed := true }
def FnExactIsSolidUptoSaid : Prop := fnExactIsSolidUptoRow.holds Try.pinned (OpenSpec.upto fnExactIsSolidSpec)

/-- 'laws.FnExactCornerCount', WHERE WHAT IT READS IS OF BULK AT MOST 1048576: true; the input reads as it did. -/
def fnExactCornerCountUptoRow : OpenClaim := { program := "ytkbhkdnanoddoaa", sum := "19e83a9dbda091b9497382d09d4c3a09165b9214ec26a8f5d5f60247771d82d2", func := "loop.example/g00919/laws.FnExactCornerCount", spec := "fnExactCornerCount", plainKeys := false, apart := false, narrowed := true }
def FnExactCornerCountUptoSaid : Prop := fnExactCornerCountUptoRow.holds Try.pinned (OpenSpec.upto fnExactCornerCountSpec)

/-- 'laws.FnExactLayersOf', WHERE WHAT IT READS IS OF BULK AT MOST 1048576: true; the input reads as it did. -/
def fnExactLayersOfUptoRow : OpenClaim := { program := "ytkbhkdnanoddoaa", sum := "19e83a9dbda091b9497382d09d4c3a09165b9214ec26a8f5d5f60247771d82d2", func := "loop.example/g00919/laws.FnExactLayersOf", spec := "fnExactLayersOf", plainKeys := false, apart := false, narrowed := true }
def FnExactLayersOfUptoSaid : Prop := fnExactLayersOfUptoRow.holds Try.pinned (OpenSpec.upto fnExactLayersOfSpec)

/-- 'laws.FnLayers', WHERE WHAT IT READS IS OF BULK AT MOST 1048576: true; the input reads as it did. -/
def fnLayersUptoRow : OpenClaim := { program := "ytkbhkdnanoddoaa", sum := "19e83a9dbda091b9497382d09d4c3a09165b9214ec26a8f5d5f60247771d82d2", func := "loop.example/g00919/laws.FnLayers", spec := "fnLayers", plainKeys := false, apart := false, narrowed := true }
def FnLayersUptoSaid : Prop := fnLayersUptoRow.holds Try.pinned (OpenSpec.upto fnLayersSpec)

end Rows
end Go.Proofs.Ytkbhkdnanoddoaa
