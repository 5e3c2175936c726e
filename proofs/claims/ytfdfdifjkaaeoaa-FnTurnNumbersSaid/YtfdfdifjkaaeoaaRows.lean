/-
  No cell of these rows narrows 'for every input' (looked for: loops, veiled, ifaces, maps, wideKeys, modest, calm, conditions, laid).
  DERIVED. THE GIVEN ROWS OF THIS SEAT. 6 by the template 'for every input the law returns true; each argument reads behind the call as it read before'; 0 by the template 'total and deterministic' (their statements: YtfdfdifjkaaeoaaTotals.lean).
  GIVEN WITH THE SEED: the statements are not yours to turn. If you find one false, say at which input.
  Laid BY PROGRAM, IN A SANDBOX (cutbox-rows.mjs): the forced cells as the released guide's own fill.sh prints them over the translation 863667f9a54a6f5a… (all of the seat's roots in one cut). By AI agents, Wed Nov 11 2026. No macro, syntax, notation, axiom, sorry.
-/
import Derived.Test.YtfdfdifjkaaeoaaChecked
import GoSem.Claim
import GoSem.ClaimJoined
import GoSem.ClaimMapViews
import Derived.JoinedTies
import Derived.KernelRfl
namespace Go.Proofs.Ytfdfdifjkaaeoaa
/- THE CELL 'sum', in the pinned program and in every row, IS THE sha256 OF THE DUMP (.gsa) THAT YtfdfdifjkaaeoaaProg.lean LOADS. Nothing in Lean hashes anything: it is a label: what it is worth is what the hold of that sum in a sandbox is worth. -/
noncomputable def Try.pinned : Pinned := { name := "ytfdfdifjkaaeoaa", sum := "863667f9a54a6f5a1637e0e77d70fed67ca588fcfba2d194d750cf60aa89f84f", checked := Try.checked }
namespace Rows
def none {H : Type} : Left H := { results := [], args := [] }

/-- 'laws.FnExactFillHoles': WHATEVER THE INPUT: true; the input reads as it did. -/
def fnExactFillHolesSpec : ChangeSpec := { name := "fnExactFillHoles", fn := fun _ => fun
  | [d] => { results := [.lit (.bool true)], args := [d] }
  | _ => none }
def fnExactFillHolesRow : OpenClaim := { program := "ytfdfdifjkaaeoaa", sum := "863667f9a54a6f5a1637e0e77d70fed67ca588fcfba2d194d750cf60aa89f84f", func := "loop.example/g00919/laws.FnExactFillHoles", spec := "fnExactFillHoles", unfollowed := true, recurses := true, plainKeys := false, apart := false }
def FnExactFillHolesSaid : Prop := fnExactFillHolesRow.holds Try.pinned (OpenSpec.ofChange fnExactFillHolesSpec)

/-- ITS FALSE NEIGHBOUR: 'it returns false'. Refute it at one input. -/
def fnExactFillHolesWrong : ChangeSpec := { name := "fnExactFillHoles", fn := fun _ => fun
  | [d] => { results := [.lit (.bool false)], args := [d] }
  | _ => none }
def FnExactFillHolesWrongFalsely : Prop := fnExactFillHolesRow.holds Try.pinned (OpenSpec.ofChange fnExactFillHolesWrong)

/-- 'laws.FnConvex': WHATEVER THE INPUT: true; the input reads as it did. -/
def fnConvexSpec : ChangeSpec := { name := "fnConvex", fn := fun _ => fun
  | [d] => { results := [.lit (.bool true)], args := [d] }
  | _ => none }
def fnConvexRow : OpenClaim := { program := "ytfdfdifjkaaeoaa", sum := "863667f9a54a6f5a1637e0e77d70fed67ca588fcfba2d194d750cf60aa89f84f", func := "loop.example/g00919/laws.FnConvex", spec := "fnConvex", unfollowed := true, recurses := true, plainKeys := false, apart := false }
def FnConvexSaid : Prop := fnConvexRow.holds Try.pinned (OpenSpec.ofChange fnConvexSpec)

/-- ITS FALSE NEIGHBOUR: 'it returns false'. Refute it at one input. -/
def fnConvexWrong : ChangeSpec := { name := "fnConvex", fn := fun _ => fun
  | [d] => { results := [.lit (.bool false)], args := [d] }
  | _ => none }
def FnConvexWrongFalsely : Prop := fnConvexRow.holds Try.pinned (OpenSpec.ofChange fnConvexWrong)

/-- 'laws.FnHoles': WHATEVER THE INPUT: true; the input reads as it did. -/
def fnHolesSpec : ChangeSpec := { name := "fnHoles", fn := fun _ => fun
  | [d] => { results := [.lit (.bool true)], args := [d] }
  | _ => none }
def fnHolesRow : OpenClaim := { program := "ytfdfdifjkaaeoaa", sum := "863667f9a54a6f5a1637e0e77d70fed67ca588fcfba2d194d750cf60aa89f84f", func := "loop.example/g00919/laws.FnHoles", spec := "fnHoles", unfollowed := true, recurses := true, plainKeys := false, apart := false }
def FnHolesSaid : Prop := fnHolesRow.holds Try.pinned (OpenSpec.ofChange fnHolesSpec)

/-- ITS FALSE NEIGHBOUR: 'it returns false'. Refute it at one input. -/
def fnHolesWrong : ChangeSpec := { name := "fnHoles", fn := fun _ => fun
  | [d] => { results := [.lit (.bool false)], args := [d] }
  | _ => none }
def FnHolesWrongFalsely : Prop := fnHolesRow.holds Try.pinned (OpenSpec.ofChange fnHolesWrong)

/-- 'laws.FnExactAreAlike': WHATEVER THE INPUT: true; the input reads as it did. -/
def fnExactAreAlikeSpec : ChangeSpec := { name := "fnExactAreAlike", fn := fun _ => fun
  | [d1, d2] => { results := [.lit (.bool true)], args := [d1, d2] }
  | _ => none }
def fnExactAreAlikeRow : OpenClaim := { program := "ytfdfdifjkaaeoaa", sum := "863667f9a54a6f5a1637e0e77d70fed67ca588fcfba2d194d750cf60aa89f84f", func := "loop.example/g00919/laws.FnExactAreAlike", spec := "fnExactAreAlike", unfollowed := true, recurses := true, plainKeys := false, apart := false }
def FnExactAreAlikeSaid : Prop := fnExactAreAlikeRow.holds Try.pinned (OpenSpec.ofChange fnExactAreAlikeSpec)

/-- ITS FALSE NEIGHBOUR: 'it returns false'. Refute it at one input. -/
def fnExactAreAlikeWrong : ChangeSpec := { name := "fnExactAreAlike", fn := fun _ => fun
  | [d1, d2] => { results := [.lit (.bool false)], args := [d1, d2] }
  | _ => none }
def FnExactAreAlikeWrongFalsely : Prop := fnExactAreAlikeRow.holds Try.pinned (OpenSpec.ofChange fnExactAreAlikeWrong)

/-- 'laws.FnTurnNumbers': WHATEVER THE INPUT: true; the input reads as it did. -/
def fnTurnNumbersSpec : ChangeSpec := { name := "fnTurnNumbers", fn := fun _ => fun
  | [d] => { results := [.lit (.bool true)], args := [d] }
  | _ => none }
def fnTurnNumbersRow : OpenClaim := { program := "ytfdfdifjkaaeoaa", sum := "863667f9a54a6f5a1637e0e77d70fed67ca588fcfba2d194d750cf60aa89f84f", func := "loop.example/g00919/laws.FnTurnNumbers", spec := "fnTurnNumbers", unfollowed := true, recurses := true, plainKeys := false, apart := false }
def FnTurnNumbersSaid : Prop := fnTurnNumbersRow.holds Try.pinned (OpenSpec.ofChange fnTurnNumbersSpec)

/-- ITS FALSE NEIGHBOUR: 'it returns false'. Refute it at one input. -/
def fnTurnNumbersWrong : ChangeSpec := { name := "fnTurnNumbers", fn := fun _ => fun
  | [d] => { results := [.lit (.bool false)], args := [d] }
  | _ => none }
def FnTurnNumbersWrongFalsely : Prop := fnTurnNumbersRow.holds Try.pinned (OpenSpec.ofChange fnTurnNumbersWrong)

/-- 'laws.FnExactFormsOfPiece': WHATEVER THE INPUT: true; the input reads as it did. -/
def fnExactFormsOfPieceSpec : ChangeSpec := { name := "fnExactFormsOfPiece", fn := fun _ => fun
  | [d] => { results := [.lit (.bool true)], args := [d] }
  | _ => none }
def fnExactFormsOfPieceRow : OpenClaim := { program := "ytfdfdifjkaaeoaa", sum := "863667f9a54a6f5a1637e0e77d70fed67ca588fcfba2d194d750cf60aa89f84f", func := "loop.example/g00919/laws.FnExactFormsOfPiece", spec := "fnExactFormsOfPiece", unfollowed := true, recurses := true, plainKeys := false, apart := false }
def FnExactFormsOfPieceSaid : Prop := fnExactFormsOfPieceRow.holds Try.pinned (OpenSpec.ofChange fnExactFormsOfPieceSpec)

/-- ITS FALSE NEIGHBOUR: 'it returns false'. Refute it at one input. -/
def fnExactFormsOfPieceWrong : ChangeSpec := { name := "fnExactFormsOfPiece", fn := fun _ => fun
  | [d] => { results := [.lit (.bool false)], args := [d] }
  | _ => none }
def FnExactFormsOfPieceWrongFalsely : Prop := fnExactFormsOfPieceRow.holds Try.pinned (OpenSpec.ofChange fnExactFormsOfPieceWrong)

/- THE SECOND FORM. 'bulk': how many values and letters a reading holds, each counted each time it is reached (what is shared counts as often as it is met; a slice's spare places count too). A statement '..UptoSaid' is the law's where the arguments, and the package variables that the reading takes, are together of bulk at most 1048576: NARROWER than '..Said'. Prove '..Said' where nothing that the law and all that it calls make is longer than what came in: it says more and counts as full. Else prove '..UptoSaid'. A law counts once. -/
mutual
def uptoBulk {H : Type} : DataW H → Nat
  | .lit (.string bytes) => bytes.length + 1
  | .lit _ => 1
  | .nil => 1
  | .ptr d => uptoBulk d + 1
  | .slice elems spare => uptoBulkAll elems + uptoBulkAll spare + 1
  | .agg parts => uptoBulkAll parts + 1
  | .iface _ d => uptoBulk d + 1
  | .map entries => uptoBulkEntries entries + 1
  | .held _ => 1
def uptoBulkAll {H : Type} : List (DataW H) → Nat
  | [] => 0
  | d :: r => uptoBulk d + uptoBulkAll r
def uptoBulkEntries {H : Type} : List (Lit × DataW H) → Nat
  | [] => 0
  | x :: r => uptoBulkEntry x + uptoBulkEntries r
def uptoBulkEntry {H : Type} : Lit × DataW H → Nat
  | (.string bytes, d) => bytes.length + uptoBulk d + 1
  | (_, d) => uptoBulk d + 1
 end
def uptoSmall : (H : Type) → List (DataW H) → Bool := fun _ ds => decide (uptoBulkAll ds ≤ 1048576)
def OpenSpec.upto (s : _root_.Go.ChangeSpec) : _root_.Go.OpenSpec := { _root_.Go.OpenSpec.ofChange s with cond := some uptoSmall }

/-- 'laws.FnExactFillHoles', WHERE WHAT IT READS IS OF BULK AT MOST 1048576: true; the input reads as it did. -/
def fnExactFillHolesUptoRow : OpenClaim := { program := "ytfdfdifjkaaeoaa", sum := "863667f9a54a6f5a1637e0e77d70fed67ca588fcfba2d194d750cf60aa89f84f", func := "loop.example/g00919/laws.FnExactFillHoles", spec := "fnExactFillHoles", unfollowed := true, recurses := true, plainKeys := false, apart := false, narrowed := true }
def FnExactFillHolesUptoSaid : Prop := fnExactFillHolesUptoRow.holds Try.pinned (OpenSpec.upto fnExactFillHolesSpec)

/-- 'laws.FnConvex', WHERE WHAT IT READS IS OF BULK AT MOST 1048576: true; the input reads as it did. -/
def fnConvexUptoRow : OpenClaim := { program := "ytfdfdifjkaaeoaa", sum := "863667f9a54a6f5a1637e0e77d70fed67ca588fcfba2d194d750cf60aa89f84f", func := "loop.example/g00919/laws.FnConvex", spec := "fnConvex", unfollowed := true, recurses := true, plainKeys := false, apart := false, narrowed := true }
def FnConvexUptoSaid : Prop := fnConvexUptoRow.holds Try.pinned (OpenSpec.upto fnConvexSpec)

/-- 'laws.FnHoles', WHERE WHAT IT READS IS OF BULK AT MOST 1048576: true; the input reads as it did. -/
def fnHolesUptoRow : OpenClaim := { program := "ytfdfdifjkaaeoaa", sum := "863667f9a54a6f5a1637e0e77d70fed67ca588fcfba2d194d750cf60aa89f84f", func := "loop.example/g00919/laws.FnHoles", spec := "fnHoles", unfollowed := true, recurses := true, plainKeys := false, apart := false, narrowed := true }
def FnHolesUptoSaid : Prop := fnHolesUptoRow.holds Try.pinned (OpenSpec.upto fnHolesSpec)

/-- 'laws.FnExactAreAlike', WHERE WHAT IT READS IS OF BULK AT MOST 1048576: true; the input reads as it did. -/
def fnExactAreAlikeUptoRow : OpenClaim := { program := "ytfdfdifjkaaeoaa", sum := "863667f9a54a6f5a1637e0e77d70fed67ca588fcfba2d194d750cf60aa89f84f", func := "loop.example/g00919/laws.FnExactAreAlike", spec := "fnExactAreAlike", unfollowed := true, recurses := true, plainKeys := false, apart := false, narrowed := true }
def FnExactAreAlikeUptoSaid : Prop := fnExactAreAlikeUptoRow.holds Try.pinned (OpenSpec.upto fnExactAreAlikeSpec)

/-- 'laws.FnTurnNumbers', WHERE WHAT IT READS IS OF BULK AT MOST 1048576: true; the input reads as it did. -/
def fnTurnNumbersUptoRow : OpenClaim := { program := "ytfdfdifjkaaeoaa", sum := "863667f9a54a6f5a1637e0e77d70fed67ca588fcfba2d194d750cf60aa89f84f", func := "loop.example/g00919/laws.FnTurnNumbers", spec := "fnTurnNumbers", unfollowed := true, recurses := true, plainKeys := false, apart := false, narrowed := true }
def FnTurnNumbersUptoSaid : Prop := fnTurnNumbersUptoRow.holds Try.pinned (OpenSpec.upto fnTurnNumbersSpec)

/-- 'laws.FnExactFormsOfPiece', WHERE WHAT IT READS IS OF BULK AT MOST 1048576: true; the input reads as it did. -/
def fnExactFormsOfPieceUptoRow : OpenClaim := { program := "ytfdfdifjkaaeoaa", sum := "863667f9a54a6f5a1637e0e77d70fed67ca588fcfba2d194d750cf60aa89f84f", func := "loop.example/g00919/laws.FnExactFormsOfPiece", spec := "fnExactFormsOfPiece", unfollowed := true, recurses := true, plainKeys := false, apart := false, narrowed := true }
def FnExactFormsOfPieceUptoSaid : Prop := fnExactFormsOfPieceUptoRow.holds Try.pinned (OpenSpec.upto fnExactFormsOfPieceSpec)

end Rows
end Go.Proofs.Ytfdfdifjkaaeoaa
