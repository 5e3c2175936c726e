/-
  No cell of these rows narrows 'for every input' (looked for: loops, veiled, ifaces, maps, wideKeys, modest, calm, conditions, laid).
  DERIVED. THE GIVEN ROWS OF THIS SEAT. 11 by the template 'for every input the law returns true; each argument reads behind the call as it read before'; 0 by the template 'total and deterministic' (their statements: YtabdmdkoffpppaaTotals.lean).
  GIVEN WITH THE SEED: the statements are not yours to turn. If you find one false, say at which input.
  Laid BY PROGRAM, IN A SANDBOX (cutbox-rows.mjs): the forced cells as the released guide's own fill.sh prints them over the translation 67241e9bb78399bf… (all of the seat's roots in one cut). By AI agents, Wed Nov 11 2026. No macro, syntax, notation, axiom, sorry.
-/
import Derived.Test.YtabdmdkoffpppaaChecked
import GoSem.Claim
import GoSem.ClaimJoined
import GoSem.ClaimMapViews
import Derived.JoinedTies
import Derived.KernelRfl
namespace Go.Proofs.Ytabdmdkoffpppaa
/- THE CELL 'sum', in the pinned program and in every row, IS THE sha256 OF THE DUMP (.gsa) THAT YtabdmdkoffpppaaProg.lean LOADS. Nothing in Lean hashes anything: it is a label: what it is worth is what the hold of that sum in a sandbox is worth. -/
noncomputable def Try.pinned : Pinned := { name := "ytabdmdkoffpppaa", sum := "67241e9bb78399bf64b25615ee9aeb3f3c82578c6a36bf9828a281ab505997b6", checked := Try.checked }
namespace Rows
def none {H : Type} : Left H := { results := [], args := [] }

/-- 'laws.FnExactDoOverlap': WHATEVER THE INPUT: true; the input reads as it did. -/
def fnExactDoOverlapSpec : ChangeSpec := { name := "fnExactDoOverlap", fn := fun _ => fun
  | [d1, d2] => { results := [.lit (.bool true)], args := [d1, d2] }
  | _ => none }
def fnExactDoOverlapRow : OpenClaim := { program := "ytabdmdkoffpppaa", sum := "67241e9bb78399bf64b25615ee9aeb3f3c82578c6a36bf9828a281ab505997b6", func := "loop.example/g00919/laws.FnExactDoOverlap", spec := "fnExactDoOverlap", unfollowed := true, recurses := true, plainKeys := false, apart := false }
def FnExactDoOverlapSaid : Prop := fnExactDoOverlapRow.holds Try.pinned (OpenSpec.ofChange fnExactDoOverlapSpec)

/-- ITS FALSE NEIGHBOUR: 'it returns false'. Refute it at one input. -/
def fnExactDoOverlapWrong : ChangeSpec := { name := "fnExactDoOverlap", fn := fun _ => fun
  | [d1, d2] => { results := [.lit (.bool false)], args := [d1, d2] }
  | _ => none }
def FnExactDoOverlapWrongFalsely : Prop := fnExactDoOverlapRow.holds Try.pinned (OpenSpec.ofChange fnExactDoOverlapWrong)

/-- 'laws.FnExactFaceCount': WHATEVER THE INPUT: true; the input reads as it did. -/
def fnExactFaceCountSpec : ChangeSpec := { name := "fnExactFaceCount", fn := fun _ => fun
  | [d] => { results := [.lit (.bool true)], args := [d] }
  | _ => none }
def fnExactFaceCountRow : OpenClaim := { program := "ytabdmdkoffpppaa", sum := "67241e9bb78399bf64b25615ee9aeb3f3c82578c6a36bf9828a281ab505997b6", func := "loop.example/g00919/laws.FnExactFaceCount", spec := "fnExactFaceCount", plainKeys := false, apart := false }
def FnExactFaceCountSaid : Prop := fnExactFaceCountRow.holds Try.pinned (OpenSpec.ofChange fnExactFaceCountSpec)

/-- ITS FALSE NEIGHBOUR: 'it returns false'. Refute it at one input. -/
def fnExactFaceCountWrong : ChangeSpec := { name := "fnExactFaceCount", fn := fun _ => fun
  | [d] => { results := [.lit (.bool false)], args := [d] }
  | _ => none }
def FnExactFaceCountWrongFalsely : Prop := fnExactFaceCountRow.holds Try.pinned (OpenSpec.ofChange fnExactFaceCountWrong)

/-- 'laws.FnExactIsSolid': WHATEVER THE INPUT: true; the input reads as it did. -/
def fnExactIsSolidSpec : ChangeSpec := { name := "fnExactIsSolid", fn := fun _ => fun
  | [d] => { results := [.lit (.bool true)], args := [d] }
  | _ => none }
def fnExactIsSolidRow : OpenClaim := { program := "ytabdmdkoffpppaa", sum := "67241e9bb78399bf64b25615ee9aeb3f3c82578c6a36bf9828a281ab505997b6", func := "loop.example/g00919/laws.FnExactIsSolid", spec := "fnExactIsSolid", plainKeys := false, apart := false }
def FnExactIsSolidSaid : Prop := fnExactIsSolidRow.holds Try.pinned (OpenSpec.ofChange fnExactIsSolidSpec)

/-- ITS FALSE NEIGHBOUR: 'it returns false'. Refute it at one input. -/
def fnExactIsSolidWrong : ChangeSpec := { name := "fnExactIsSolid", fn := fun _ => fun
  | [d] => { results := [.lit (.bool false)], args := [d] }
  | _ => none }
def FnExactIsSolidWrongFalsely : Prop := fnExactIsSolidRow.holds Try.pinned (OpenSpec.ofChange fnExactIsSolidWrong)

/-- 'laws.FnExactCornerCount': WHATEVER THE INPUT: true; the input reads as it did. -/
def fnExactCornerCountSpec : ChangeSpec := { name := "fnExactCornerCount", fn := fun _ => fun
  | [d] => { results := [.lit (.bool true)], args := [d] }
  | _ => none }
def fnExactCornerCountRow : OpenClaim := { program := "ytabdmdkoffpppaa", sum := "67241e9bb78399bf64b25615ee9aeb3f3c82578c6a36bf9828a281ab505997b6", func := "loop.example/g00919/laws.FnExactCornerCount", spec := "fnExactCornerCount", plainKeys := false, apart := false }
def FnExactCornerCountSaid : Prop := fnExactCornerCountRow.holds Try.pinned (OpenSpec.ofChange fnExactCornerCountSpec)

/-- ITS FALSE NEIGHBOUR: 'it returns false'. Refute it at one input. -/
def fnExactCornerCountWrong : ChangeSpec := { name := "fnExactCornerCount", fn := fun _ => fun
  | [d] => { results := [.lit (.bool false)], args := [d] }
  | _ => none }
def FnExactCornerCountWrongFalsely : Prop := fnExactCornerCountRow.holds Try.pinned (OpenSpec.ofChange fnExactCornerCountWrong)

/-- 'laws.FnExactLayersOf': WHATEVER THE INPUT: true; the input reads as it did. -/
def fnExactLayersOfSpec : ChangeSpec := { name := "fnExactLayersOf", fn := fun _ => fun
  | [d] => { results := [.lit (.bool true)], args := [d] }
  | _ => none }
def fnExactLayersOfRow : OpenClaim := { program := "ytabdmdkoffpppaa", sum := "67241e9bb78399bf64b25615ee9aeb3f3c82578c6a36bf9828a281ab505997b6", func := "loop.example/g00919/laws.FnExactLayersOf", spec := "fnExactLayersOf", plainKeys := false, apart := false }
def FnExactLayersOfSaid : Prop := fnExactLayersOfRow.holds Try.pinned (OpenSpec.ofChange fnExactLayersOfSpec)

/-- ITS FALSE NEIGHBOUR: 'it returns false'. Refute it at one input. -/
def fnExactLayersOfWrong : ChangeSpec := { name := "fnExactLayersOf", fn := fun _ => fun
  | [d] => { results := [.lit (.bool false)], args := [d] }
  | _ => none }
def FnExactLayersOfWrongFalsely : Prop := fnExactLayersOfRow.holds Try.pinned (OpenSpec.ofChange fnExactLayersOfWrong)

/-- 'laws.FnLayers': WHATEVER THE INPUT: true; the input reads as it did. -/
def fnLayersSpec : ChangeSpec := { name := "fnLayers", fn := fun _ => fun
  | [d] => { results := [.lit (.bool true)], args := [d] }
  | _ => none }
def fnLayersRow : OpenClaim := { program := "ytabdmdkoffpppaa", sum := "67241e9bb78399bf64b25615ee9aeb3f3c82578c6a36bf9828a281ab505997b6", func := "loop.example/g00919/laws.FnLayers", spec := "fnLayers", plainKeys := false, apart := false }
def FnLayersSaid : Prop := fnLayersRow.holds Try.pinned (OpenSpec.ofChange fnLayersSpec)

/-- ITS FALSE NEIGHBOUR: 'it returns false'. Refute it at one input. -/
def fnLayersWrong : ChangeSpec := { name := "fnLayers", fn := fun _ => fun
  | [d] => { results := [.lit (.bool false)], args := [d] }
  | _ => none }
def FnLayersWrongFalsely : Prop := fnLayersRow.holds Try.pinned (OpenSpec.ofChange fnLayersWrong)

/-- 'laws.FnEdges': WHATEVER THE INPUT: true; the input reads as it did. -/
def fnEdgesSpec : ChangeSpec := { name := "fnEdges", fn := fun _ => fun
  | [d] => { results := [.lit (.bool true)], args := [d] }
  | _ => none }
def fnEdgesRow : OpenClaim := { program := "ytabdmdkoffpppaa", sum := "67241e9bb78399bf64b25615ee9aeb3f3c82578c6a36bf9828a281ab505997b6", func := "loop.example/g00919/laws.FnEdges", spec := "fnEdges", plainKeys := false, apart := false }
def FnEdgesSaid : Prop := fnEdgesRow.holds Try.pinned (OpenSpec.ofChange fnEdgesSpec)

/-- ITS FALSE NEIGHBOUR: 'it returns false'. Refute it at one input. -/
def fnEdgesWrong : ChangeSpec := { name := "fnEdges", fn := fun _ => fun
  | [d] => { results := [.lit (.bool false)], args := [d] }
  | _ => none }
def FnEdgesWrongFalsely : Prop := fnEdgesRow.holds Try.pinned (OpenSpec.ofChange fnEdgesWrong)

/-- 'laws.FnExactHolesOf': WHATEVER THE INPUT: true; the input reads as it did. -/
def fnExactHolesOfSpec : ChangeSpec := { name := "fnExactHolesOf", fn := fun _ => fun
  | [d] => { results := [.lit (.bool true)], args := [d] }
  | _ => none }
def fnExactHolesOfRow : OpenClaim := { program := "ytabdmdkoffpppaa", sum := "67241e9bb78399bf64b25615ee9aeb3f3c82578c6a36bf9828a281ab505997b6", func := "loop.example/g00919/laws.FnExactHolesOf", spec := "fnExactHolesOf", unfollowed := true, recurses := true, plainKeys := false, apart := false }
def FnExactHolesOfSaid : Prop := fnExactHolesOfRow.holds Try.pinned (OpenSpec.ofChange fnExactHolesOfSpec)

/-- ITS FALSE NEIGHBOUR: 'it returns false'. Refute it at one input. -/
def fnExactHolesOfWrong : ChangeSpec := { name := "fnExactHolesOf", fn := fun _ => fun
  | [d] => { results := [.lit (.bool false)], args := [d] }
  | _ => none }
def FnExactHolesOfWrongFalsely : Prop := fnExactHolesOfRow.holds Try.pinned (OpenSpec.ofChange fnExactHolesOfWrong)

/-- 'laws.FnExactRestParts': WHATEVER THE INPUT: true; the input reads as it did. -/
def fnExactRestPartsSpec : ChangeSpec := { name := "fnExactRestParts", fn := fun _ => fun
  | [d1, d2] => { results := [.lit (.bool true)], args := [d1, d2] }
  | _ => none }
def fnExactRestPartsRow : OpenClaim := { program := "ytabdmdkoffpppaa", sum := "67241e9bb78399bf64b25615ee9aeb3f3c82578c6a36bf9828a281ab505997b6", func := "loop.example/g00919/laws.FnExactRestParts", spec := "fnExactRestParts", unfollowed := true, recurses := true, plainKeys := false, apart := false }
def FnExactRestPartsSaid : Prop := fnExactRestPartsRow.holds Try.pinned (OpenSpec.ofChange fnExactRestPartsSpec)

/-- ITS FALSE NEIGHBOUR: 'it returns false'. Refute it at one input. -/
def fnExactRestPartsWrong : ChangeSpec := { name := "fnExactRestParts", fn := fun _ => fun
  | [d1, d2] => { results := [.lit (.bool false)], args := [d1, d2] }
  | _ => none }
def FnExactRestPartsWrongFalsely : Prop := fnExactRestPartsRow.holds Try.pinned (OpenSpec.ofChange fnExactRestPartsWrong)

/-- 'laws.FnCut': WHATEVER THE INPUT: true; the input reads as it did. -/
def fnCutSpec : ChangeSpec := { name := "fnCut", fn := fun _ => fun
  | [d] => { results := [.lit (.bool true)], args := [d] }
  | _ => none }
def fnCutRow : OpenClaim := { program := "ytabdmdkoffpppaa", sum := "67241e9bb78399bf64b25615ee9aeb3f3c82578c6a36bf9828a281ab505997b6", func := "loop.example/g00919/laws.FnCut", spec := "fnCut", unfollowed := true, recurses := true, plainKeys := false, apart := false }
def FnCutSaid : Prop := fnCutRow.holds Try.pinned (OpenSpec.ofChange fnCutSpec)

/-- ITS FALSE NEIGHBOUR: 'it returns false'. Refute it at one input. -/
def fnCutWrong : ChangeSpec := { name := "fnCut", fn := fun _ => fun
  | [d] => { results := [.lit (.bool false)], args := [d] }
  | _ => none }
def FnCutWrongFalsely : Prop := fnCutRow.holds Try.pinned (OpenSpec.ofChange fnCutWrong)

/-- 'laws.FnRestParts': WHATEVER THE INPUT: true; the input reads as it did. -/
def fnRestPartsSpec : ChangeSpec := { name := "fnRestParts", fn := fun _ => fun
  | [d] => { results := [.lit (.bool true)], args := [d] }
  | _ => none }
def fnRestPartsRow : OpenClaim := { program := "ytabdmdkoffpppaa", sum := "67241e9bb78399bf64b25615ee9aeb3f3c82578c6a36bf9828a281ab505997b6", func := "loop.example/g00919/laws.FnRestParts", spec := "fnRestParts", unfollowed := true, recurses := true, plainKeys := false, apart := false }
def FnRestPartsSaid : Prop := fnRestPartsRow.holds Try.pinned (OpenSpec.ofChange fnRestPartsSpec)

/-- ITS FALSE NEIGHBOUR: 'it returns false'. Refute it at one input. -/
def fnRestPartsWrong : ChangeSpec := { name := "fnRestParts", fn := fun _ => fun
  | [d] => { results := [.lit (.bool false)], args := [d] }
  | _ => none }
def FnRestPartsWrongFalsely : Prop := fnRestPartsRow.holds Try.pinned (OpenSpec.ofChange fnRestPartsWrong)

/- THE SECOND FORM. 'bulk': how many values and letters a reading holds, each counted each time it is reached (what is shared counts as often as it is met; a slice's spare places count too). A statement '..UptoSaid' is the law's where the arguments, and the package variables that the reading takes, are together of bulk at most 1048576: NARROWER than '..Said'. Prove '..Said' where nothing that the law and all that it calls make is longer than what came in: it says more and counts as full. Else prove '..UptoSaid'. A law counts once. -/
mutual
def uptoBulk {H : Type} : DataW H → Nat
  | .lit (.string bytes) => bytes.length + 1
  | .lit _ => 1
  | .nil => 1
  | .ptr d => uptoBulk d + 1
  | .slice elems spare => uptoBulkAll elems + uptoBulkAll spare + 1
  | .agg parts => uptoBulkAll parts + 1
  | .iface _ d => uptoBulk d + 1
  | .map entries => uptoBulkEntries entries + 1
  | .held _ => 1
def uptoBulkAll {H : Type} : List (DataW H) → Nat
  | [] => 0
  | d :: r => uptoBulk d + uptoBulkAll r
def uptoBulkEntries {H : Type} : List (Lit × DataW H) → Nat
  | [] => 0
  | x :: r => uptoBulkEntry x + uptoBulkEntries r
def uptoBulkEntry {H : Type} : Lit × DataW H → Nat
  | (.string bytes, d) => bytes.length + uptoBulk d + 1
  | (_, d) => uptoBulk d + 1
 end
def uptoSmall : (H : Type) → List (DataW H) → Bool := fun _ ds => decide (uptoBulkAll ds ≤ 1048576)
def OpenSpec.upto (s : _root_.Go.ChangeSpec) : _root_.Go.OpenSpec := { _root_.Go.OpenSpec.ofChange s with cond := some uptoSmall }

/-- 'laws.FnExactDoOverlap', WHERE WHAT IT READS IS OF BULK AT MOST 1048576: true; the input reads as it did. -/
def fnExactDoOverlapUptoRow : OpenClaim := { program := "ytabdmdkoffpppaa", sum := "67241e9bb78399bf64b25615ee9aeb3f3c82578c6a36bf9828a281ab505997b6", func := "loop.example/g00919/laws.FnExactDoOverlap", spec := "fnExactDoOverlap", unfollowed := true, recurses := true, plainKeys := false, apart := false, narrowed := true }
def FnExactDoOverlapUptoSaid : Prop := fnExactDoOverlapUptoRow.holds Try.pinned (OpenSpec.upto fnExactDoOverlapSpec)

/-- 'laws.FnExactFaceCount', WHERE WHAT IT READS IS OF BULK AT MOST 1048576: true; the input reads as it did. -/
def fnExactFaceCountUptoRow : OpenClaim := { program := "ytabdmdkoffpppaa", sum := "67241e9bb78399bf64b25615ee9aeb3f3c82578c6a36bf9828a281ab505997b6", func := "loop.example/g00919/laws.FnExactFaceCount", spec := "fnExactFaceCount", plainKeys := false, apart := false, narrowed := true }
def FnExactFaceCountUptoSaid : Prop := fnExactFaceCountUptoRow.holds Try.pinned (OpenSpec.upto fnExactFaceCountSpec)

/-- 'laws.FnExactIsSolid', WHERE WHAT IT READS IS OF BULK AT MOST 1048576: true; the input reads as it did. -/
def fnExactIsSolidUptoRow : OpenClaim := { program := "ytabdmdkoffpppaa", sum := "67241e9bb78399bf64b25615ee9aeb3f3c82578c6a36bf9828a281ab505997b6", func := "loop.example/g00919/laws.FnExactIsSolid", spec := "fnExactIsSolid", plainKeys := false, apart := false, narrowed := true }
def FnExactIsSolidUptoSaid : Prop := fnExactIsSolidUptoRow.holds Try.pinned (OpenSpec.upto fnExactIsSolidSpec)

/-- 'laws.FnExactCornerCount', WHERE WHAT IT READS IS OF BULK AT MOST 1048576: true; the input reads as it did. -/
def fnExactCornerCountUptoRow : OpenClaim := { program := "ytabdmdkoffpppaa", sum := "67241e9bb78399bf64b25615ee9aeb3f3c82578c6a36bf9828a281ab505997b6", func := "loop.example/g00919/laws.FnExactCornerCount", spec := "fnExactCornerCount", plainKeys := false, apart := false, narrowed := true }
def FnExactCornerCountUptoSaid : Prop := fnExactCornerCountUptoRow.holds Try.pinned (OpenSpec.upto fnExactCornerCountSpec)

/-- 'laws.FnExactLayersOf', WHERE WHAT IT READS IS OF BULK AT MOST 1048576: true; the input reads as it did. -/
def fnExactLayersOfUptoRow : OpenClaim := { program := "ytabdmdkoffpppaa", sum := "67241e9bb78399bf64b25615ee9aeb3f3c82578c6a36bf9828a281ab505997b6", func := "loop.example/g00919/laws.FnExactLayersOf", spec := "fnExactLayersOf", plainKeys := false, apart := false, narrowed := true }
def FnExactLayersOfUptoSaid : Prop := fnExactLayersOfUptoRow.holds Try.pinned (OpenSpec.upto fnExactLayersOfSpec)

/-- 'laws.FnLayers', WHERE WHAT IT READS IS OF BULK AT MOST 1048576: true; the input reads as it did. -/
def fnLayersUptoRow : OpenClaim := { program := "ytabdmdkoffpppaa", sum := "67241e9bb78399bf64b25615ee9aeb3f3c82578c6a36bf9828a281ab505997b6", func := "loop.example/g00919/laws.FnLayers", spec := "fnLayers", plainKeys := false, apart := false, narrowed := true }
def FnLayersUptoSaid : Prop := fnLayersUptoRow.holds Try.pinned (OpenSpec.upto fnLayersSpec)

/-- 'laws.FnEdges', WHERE WHAT IT READS IS OF BULK AT MOST 1048576: true; the input reads as it did. -/
def fnEdgesUptoRow : OpenClaim := { program := "ytabdmdkoffpppaa", sum := "67241e9bb78399bf64b25615ee9aeb3f3c82578c6a36bf9828a281ab505997b6", func := "loop.example/g00919/laws.FnEdges", spec := "fnEdges", plainKeys := false, apart := false, narrowed := true }
def FnEdgesUptoSaid : Prop := fnEdgesUptoRow.holds Try.pinned (OpenSpec.upto fnEdgesSpec)

/-- 'laws.FnExactHolesOf', WHERE WHAT IT READS IS OF BULK AT MOST 1048576: true; the input reads as it did. -/
def fnExactHolesOfUptoRow : OpenClaim := { program := "ytabdmdkoffpppaa", sum := "67241e9bb78399bf64b25615ee9aeb3f3c82578c6a36bf9828a281ab505997b6", func := "loop.example/g00919/laws.FnExactHolesOf", spec := "fnExactHolesOf", unfollowed := true, recurses := true, plainKeys := false, apart := false, narrowed := true }
def FnExactHolesOfUptoSaid : Prop := fnExactHolesOfUptoRow.holds Try.pinned (OpenSpec.upto fnExactHolesOfSpec)

/-- 'laws.FnExactRestParts', WHERE WHAT IT READS IS OF BULK AT MOST 1048576: true; the input reads as it did. -/
def fnExactRestPartsUptoRow : OpenClaim := { program := "ytabdmdkoffpppaa", sum := "67241e9bb78399bf64b25615ee9aeb3f3c82578c6a36bf9828a281ab505997b6", func := "loop.example/g00919/laws.FnExactRestParts", spec := "fnExactRestParts", unfollowed := true, recurses := true, plainKeys := false, apart := false, narrowed := true }
def FnExactRestPartsUptoSaid : Prop := fnExactRestPartsUptoRow.holds Try.pinned (OpenSpec.upto fnExactRestPartsSpec)

/-- 'laws.FnCut', WHERE WHAT IT READS IS OF BULK AT MOST 1048576: true; the input reads as it did. -/
def fnCutUptoRow : OpenClaim := { program := "ytabdmdkoffpppaa", sum := "67241e9bb78399bf64b25615ee9aeb3f3c82578c6a36bf9828a281ab505997b6", func := "loop.example/g00919/laws.FnCut", spec := "fnCut", unfollowed := true, recurses := true, plainKeys := false, apart := false, narrowed := true }
def FnCutUptoSaid : Prop := fnCutUptoRow.holds Try.pinned (OpenSpec.upto fnCutSpec)

/-- 'laws.FnRestParts', WHERE WHAT IT READS IS OF BULK AT MOST 1048576: true; the input reads as it did. -/
def fnRestPartsUptoRow : OpenClaim := { program := "ytabdmdkoffpppaa", sum := "67241e9bb78399bf64b25615ee9aeb3f3c82578c6a36bf9828a281ab505997b6", func := "loop.example/g00919/laws.FnRestParts", spec := "fnRestParts", unfollowed := true, recurses := true, plainKeys := false, apart := false, narrowed := true }
def FnRestPartsUptoSaid : Prop := fnRestPartsUptoRow.holds Try.pinned (OpenSpec.upto fnRestPartsSpec)

end Rows
end Go.Proofs.Ytabdmdkoffpppaa
