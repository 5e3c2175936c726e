/-
  No cell of these rows narrows 'for every input' (looked for: loops, veiled, ifaces, maps, wideKeys, modest, calm, conditions, laid).
  DERIVED. THE GIVEN ROWS OF THIS SEAT. 2 by the template 'for every input the law returns true; each argument reads behind the call as it read before'; 0 by the template 'total and deterministic' (their statements: YtibbjiehblpmfaaTotals.lean).
  GIVEN WITH THE SEED: the statements are not yours to turn. If you find one false, say at which input.
  Laid BY PROGRAM, IN A SANDBOX (cutbox-rows.mjs): the forced cells as the released guide's own fill.sh prints them over the translation 8f6af6c07a1467f9… (all of the seat's roots in one cut). By AI agents, Wed Nov 11 2026. No macro, syntax, notation, axiom, sorry.
-/
import Derived.Test.YtibbjiehblpmfaaChecked
import GoSem.Claim
import GoSem.ClaimJoined
import GoSem.ClaimMapViews
import Derived.JoinedTies
import Derived.KernelRfl
namespace Go.Proofs.Ytibbjiehblpmfaa
/- THE CELL 'sum', in the pinned program and in every row, IS THE sha256 OF THE DUMP (.gsa) THAT YtibbjiehblpmfaaProg.lean LOADS. Nothing in Lean hashes anything: it is a label: what it is worth is what the hold of that sum in a sandbox is worth. -/
noncomputable def Try.pinned : Pinned := { name := "ytibbjiehblpmfaa", sum := "8f6af6c07a1467f90d473bbf8a45a8f655d589489035b2c61b98106ff237374c", checked := Try.checked }
namespace Rows
def none {H : Type} : Left H := { results := [], args := [] }

/-- 'laws.FnExactHexShapes': WHATEVER THE INPUT: true; the input reads as it did. -/
def fnExactHexShapesSpec : ChangeSpec := { name := "fnExactHexShapes", fn := fun _ => fun
  | [d] => { results := [.lit (.bool true)], args := [d] }
  | _ => none }
def fnExactHexShapesRow : OpenClaim := { program := "ytibbjiehblpmfaa", sum := "8f6af6c07a1467f90d473bbf8a45a8f655d589489035b2c61b98106ff237374c", func := "loop.example/g00919/laws.FnExactHexShapes", spec := "fnExactHexShapes", unfollowed := true, recurses := true, apart := false }
def FnExactHexShapesSaid : Prop := fnExactHexShapesRow.holds Try.pinned (OpenSpec.ofChange fnExactHexShapesSpec)

/-- ITS FALSE NEIGHBOUR: 'it returns false'. Refute it at one input. -/
def fnExactHexShapesWrong : ChangeSpec := { name := "fnExactHexShapes", fn := fun _ => fun
  | [d] => { results := [.lit (.bool false)], args := [d] }
  | _ => none }
def FnExactHexShapesWrongFalsely : Prop := fnExactHexShapesRow.holds Try.pinned (OpenSpec.ofChange fnExactHexShapesWrong)

/-- 'laws.FnExactTriangleShapes': WHATEVER THE INPUT: true; the input reads as it did. -/
def fnExactTriangleShapesSpec : ChangeSpec := { name := "fnExactTriangleShapes", fn := fun _ => fun
  | [d] => { results := [.lit (.bool true)], args := [d] }
  | _ => none }
def fnExactTriangleShapesRow : OpenClaim := { program := "ytibbjiehblpmfaa", sum := "8f6af6c07a1467f90d473bbf8a45a8f655d589489035b2c61b98106ff237374c", func := "loop.example/g00919/laws.FnExactTriangleShapes", spec := "fnExactTriangleShapes", unfollowed := true, recurses := true, apart := false }
def FnExactTriangleShapesSaid : Prop := fnExactTriangleShapesRow.holds Try.pinned (OpenSpec.ofChange fnExactTriangleShapesSpec)

/-- ITS FALSE NEIGHBOUR: 'it returns false'. Refute it at one input. -/
def fnExactTriangleShapesWrong : ChangeSpec := { name := "fnExactTriangleShapes", fn := fun _ => fun
  | [d] => { results := [.lit (.bool false)], args := [d] }
  | _ => none }
def FnExactTriangleShapesWrongFalsely : Prop := fnExactTriangleShapesRow.holds Try.pinned (OpenSpec.ofChange fnExactTriangleShapesWrong)

/- THE SECOND FORM. 'bulk': how many values and letters a reading holds, each counted each time it is reached (what is shared counts as often as it is met; a slice's spare places count too). A statement '..UptoSaid' is the law's where the arguments, and the package variables that the reading takes, are together of bulk at most 1048576: NARROWER than '..Said'. Prove '..Said' where nothing that the law and all that it calls make is longer than what came in: it says more and counts as full. Else prove '..UptoSaid'. A law counts once. -/
mutual
def uptoBulk {H : Type} : DataW H → Nat
  | .lit (.string bytes) => bytes.length + 1
  | .lit _ => 1
  | .nil => 1
  | .ptr d => uptoBulk d + 1
  | .slice elems spare => uptoBulkAll elems + uptoBulkAll spare + 1
  | .agg parts => uptoBulkAll parts + 1
  | .iface _ d => uptoBulk d + 1
  | .map entries => uptoBulkEntries entries + 1
  | .held _ => 1
def uptoBulkAll {H : Type} : List (DataW H) → Nat
  | [] => 0
  | d :: r => uptoBulk d + uptoBulkAll r
def uptoBulkEntries {H : Type} : List (Lit × DataW H) → Nat
  | [] => 0
  | x :: r => uptoBulkEntry x + uptoBulkEntries r
def uptoBulkEntry {H : Type} : Lit × DataW H → Nat
  | (.string bytes, d) => bytes.length + uptoBulk d + 1
  | (_, d) => uptoBulk d + 1
 end
def uptoSmall : (H : Type) → List (DataW H) → Bool := fun _ ds => decide (uptoBulkAll ds ≤ 1048576)
def OpenSpec.upto (s : _root_.Go.ChangeSpec) : _root_.Go.OpenSpec := { _root_.Go.OpenSpec.ofChange s with cond := some uptoSmall }

/-- 'laws.FnExactHexShapes', WHERE WHAT IT READS IS OF BULK AT MOST 1048576: true; the input reads as it did. -/
def fnExactHexShapesUptoRow : OpenClaim := { program := "ytibbjiehblpmfaa", sum := "8f6af6c07a1467f90d473bbf8a45a8f655d589489035b2c61b98106ff237374c", func := "loop.example/g00919/laws.FnExactHexShapes", spec := "fnExactHexShapes", unfollowed := true, recurses := true, apart := false, narrowed := true }
def FnExactHexShapesUptoSaid : Prop := fnExactHexShapesUptoRow.holds Try.pinned (OpenSpec.upto fnExactHexShapesSpec)

/-- 'laws.FnExactTriangleShapes', WHERE WHAT IT READS IS OF BULK AT MOST 1048576: true; the input reads as it did. -/
def fnExactTriangleShapesUptoRow : OpenClaim := { program := "ytibbjiehblpmfaa", sum := "8f6af6c07a1467f90d473bbf8a45a8f655d589489035b2c61b98106ff237374c", func := "loop.example/g00919/laws.FnExactTriangleShapes", spec := "fnExactTriangleShapes", unfollowed := true, recurses := true, apart := false, narrowed := true }
def FnExactTriangleShapesUptoSaid : Prop := fnExactTriangleShapesUptoRow.holds Try.pinned (OpenSpec.upto fnExactTriangleShapesSpec)

end Rows
end Go.Proofs.Ytibbjiehblpmfaa
