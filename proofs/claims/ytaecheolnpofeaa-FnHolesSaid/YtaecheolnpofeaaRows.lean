/-
  No cell of these rows narrows 'for every input' (looked for: loops, veiled, ifaces, maps, wideKeys, modest, calm, conditions, laid).
  DERIVED. THE GIVEN ROWS OF THIS SEAT. 5 by the template 'for every input the law returns true; each argument reads behind the call as it read before'; 0 by the template 'total and deterministic' (their statements: YtaecheolnpofeaaTotals.lean).
  GIVEN WITH THE SEED: the statements are not yours to turn. If you find one false, say at which input.
  Laid BY PROGRAM, IN A SANDBOX (cutbox-rows.mjs): the forced cells as the released guide's own fill.sh prints them over the translation b95c16f54710870a… (all of the seat's roots in one cut). By AI agents, Wed Nov 11 2026. No macro, syntax, notation, axiom, sorry.
-/
import Derived.Test.YtaecheolnpofeaaChecked
import GoSem.Claim
import GoSem.ClaimJoined
import GoSem.ClaimMapViews
import Derived.JoinedTies
import Derived.KernelRfl
namespace Go.Proofs.Ytaecheolnpofeaa
/- THE CELL 'sum', in the pinned program and in every row, IS THE sha256 OF THE DUMP (.gsa) THAT YtaecheolnpofeaaProg.lean LOADS. Nothing in Lean hashes anything: it is a label: what it is worth is what the hold of that sum in a sandbox is worth. -/
noncomputable def Try.pinned : Pinned := { name := "ytaecheolnpofeaa", sum := "b95c16f54710870ae7d3a2232d350fc44ff90492fb4c3c78eecef1f74bb436f3", checked := Try.checked }
namespace Rows
def none {H : Type} : Left H := { results := [], args := [] }

/-- 'laws.FnExactCornerCount': WHATEVER THE INPUT: true; the input reads as it did. -/
def fnExactCornerCountSpec : ChangeSpec := { name := "fnExactCornerCount", fn := fun _ => fun
  | [d] => { results := [.lit (.bool true)], args := [d] }
  | _ => none }
def fnExactCornerCountRow : OpenClaim := { program := "ytaecheolnpofeaa", sum := "b95c16f54710870ae7d3a2232d350fc44ff90492fb4c3c78eecef1f74bb436f3", func := "loop.example/g00919/laws.FnExactCornerCount", spec := "fnExactCornerCount", plainKeys := false, apart := false }
def FnExactCornerCountSaid : Prop := fnExactCornerCountRow.holds Try.pinned (OpenSpec.ofChange fnExactCornerCountSpec)

/-- ITS FALSE NEIGHBOUR: 'it returns false'. Refute it at one input. -/
def fnExactCornerCountWrong : ChangeSpec := { name := "fnExactCornerCount", fn := fun _ => fun
  | [d] => { results := [.lit (.bool false)], args := [d] }
  | _ => none }
def FnExactCornerCountWrongFalsely : Prop := fnExactCornerCountRow.holds Try.pinned (OpenSpec.ofChange fnExactCornerCountWrong)

/-- 'laws.FnEdges': WHATEVER THE INPUT: true; the input reads as it did. -/
def fnEdgesSpec : ChangeSpec := { name := "fnEdges", fn := fun _ => fun
  | [d] => { results := [.lit (.bool true)], args := [d] }
  | _ => none }
def fnEdgesRow : OpenClaim := { program := "ytaecheolnpofeaa", sum := "b95c16f54710870ae7d3a2232d350fc44ff90492fb4c3c78eecef1f74bb436f3", func := "loop.example/g00919/laws.FnEdges", spec := "fnEdges", plainKeys := false, apart := false }
def FnEdgesSaid : Prop := fnEdgesRow.holds Try.pinned (OpenSpec.ofChange fnEdgesSpec)

/-- ITS FALSE NEIGHBOUR: 'it returns false'. Refute it at one input. -/
def fnEdgesWrong : ChangeSpec := { name := "fnEdges", fn := fun _ => fun
  | [d] => { results := [.lit (.bool false)], args := [d] }
  | _ => none }
def FnEdgesWrongFalsely : Prop := fnEdgesRow.holds Try.pinned (OpenSpec.ofChange fnEdgesWrong)

/-- 'laws.FnExactHolesOf': WHATEVER THE INPUT: true; the input reads as it did. -/
def fnExactHolesOfSpec : ChangeSpec := { name := "fnExactHolesOf", fn := fun _ => fun
  | [d] => { results := [.lit (.bool true)], args := [d] }
  | _ => none }
def fnExactHolesOfRow : OpenClaim := { program := "ytaecheolnpofeaa", sum := "b95c16f54710870ae7d3a2232d350fc44ff90492fb4c3c78eecef1f74bb436f3", func := "loop.example/g00919/laws.FnExactHolesOf", spec := "fnExactHolesOf", unfollowed := true, recurses := true, plainKeys := false, apart := false }
def FnExactHolesOfSaid : Prop := fnExactHolesOfRow.holds Try.pinned (OpenSpec.ofChange fnExactHolesOfSpec)

/-- ITS FALSE NEIGHBOUR: 'it returns false'. Refute it at one input. -/
def fnExactHolesOfWrong : ChangeSpec := { name := "fnExactHolesOf", fn := fun _ => fun
  | [d] => { results := [.lit (.bool false)], args := [d] }
  | _ => none }
def FnExactHolesOfWrongFalsely : Prop := fnExactHolesOfRow.holds Try.pinned (OpenSpec.ofChange fnExactHolesOfWrong)

/-- 'laws.FnExactFillHoles': WHATEVER THE INPUT: true; the input reads as it did. -/
def fnExactFillHolesSpec : ChangeSpec := { name := "fnExactFillHoles", fn := fun _ => fun
  | [d] => { results := [.lit (.bool true)], args := [d] }
  | _ => none }
def fnExactFillHolesRow : OpenClaim := { program := "ytaecheolnpofeaa", sum := "b95c16f54710870ae7d3a2232d350fc44ff90492fb4c3c78eecef1f74bb436f3", func := "loop.example/g00919/laws.FnExactFillHoles", spec := "fnExactFillHoles", unfollowed := true, recurses := true, plainKeys := false, apart := false }
def FnExactFillHolesSaid : Prop := fnExactFillHolesRow.holds Try.pinned (OpenSpec.ofChange fnExactFillHolesSpec)

/-- ITS FALSE NEIGHBOUR: 'it returns false'. Refute it at one input. -/
def fnExactFillHolesWrong : ChangeSpec := { name := "fnExactFillHoles", fn := fun _ => fun
  | [d] => { results := [.lit (.bool false)], args := [d] }
  | _ => none }
def FnExactFillHolesWrongFalsely : Prop := fnExactFillHolesRow.holds Try.pinned (OpenSpec.ofChange fnExactFillHolesWrong)

/-- 'laws.FnHoles': WHATEVER THE INPUT: true; the input reads as it did. -/
def fnHolesSpec : ChangeSpec := { name := "fnHoles", fn := fun _ => fun
  | [d] => { results := [.lit (.bool true)], args := [d] }
  | _ => none }
def fnHolesRow : OpenClaim := { program := "ytaecheolnpofeaa", sum := "b95c16f54710870ae7d3a2232d350fc44ff90492fb4c3c78eecef1f74bb436f3", func := "loop.example/g00919/laws.FnHoles", spec := "fnHoles", unfollowed := true, recurses := true, plainKeys := false, apart := false }
def FnHolesSaid : Prop := fnHolesRow.holds Try.pinned (OpenSpec.ofChange fnHolesSpec)

/-- ITS FALSE NEIGHBOUR: 'it returns false'. Refute it at one input. -/
def fnHolesWrong : ChangeSpec := { name := "fnHoles", fn := fun _ => fun
  | [d] => { results := [.lit (.bool false)], args := [d] }
  | _ => none }
def FnHolesWrongFalsely : Prop := fnHolesRow.holds Try.pinned (OpenSpec.ofChange fnHolesWrong)

/- THE SECOND FORM. 'bulk': how many values and letters a reading holds, each counted each time it is reached (what is shared counts as often as it is met; a slice's spare places count too). A statement '..UptoSaid' is the law's where the arguments, and the package variables that the reading takes, are together of bulk at most 1048576: NARROWER than '..Said'. Prove '..Said' where nothing that the law and all that it calls make is longer than what came in: it says more and counts as full. Else prove '..UptoSaid'. A law counts once. -/
mutual
def uptoBulk {H : Type} : DataW H → Nat
  | .lit (.string bytes) => bytes.length + 1
  | .lit _ => 1
  | .nil => 1
  | .ptr d => uptoBulk d + 1
  | .slice elems spare => uptoBulkAll elems + uptoBulkAll spare + 1
  | .agg parts => uptoBulkAll parts + 1
  | .iface _ d => uptoBulk d + 1
  | .map entries => uptoBulkEntries entries + 1
  | .held _ => 1
def uptoBulkAll {H : Type} : List (DataW H) → Nat
  | [] => 0
  | d :: r => uptoBulk d + uptoBulkAll r
def uptoBulkEntries {H : Type} : List (Lit × DataW H) → Nat
  | [] => 0
  | x :: r => uptoBulkEntry x + uptoBulkEntries r
def uptoBulkEntry {H : Type} : Lit × DataW H → Nat
  | (.string bytes, d) => bytes.length + uptoBulk d + 1
  | (_, d) => uptoBulk d + 1
 end
def uptoSmall : (H : Type) → List (DataW H) → Bool := fun _ ds => decide (uptoBulkAll ds ≤ 1048576)
def OpenSpec.upto (s : _root_.Go.ChangeSpec) : _root_.Go.OpenSpec := { _root_.Go.OpenSpec.ofChange s with cond := some uptoSmall }

/-- 'laws.FnExactCornerCount', WHERE WHAT IT READS IS OF BULK AT MOST 1048576: true; the input reads as it did. -/
def fnExactCornerCountUptoRow : OpenClaim := { program := "ytaecheolnpofeaa", sum := "b95c16f54710870ae7d3a2232d350fc44ff90492fb4c3c78eecef1f74bb436f3", func := "loop.example/g00919/laws.FnExactCornerCount", spec := "fnExactCornerCount", plainKeys := false, apart := false, narrowed := true }
def FnExactCornerCountUptoSaid : Prop := fnExactCornerCountUptoRow.holds Try.pinned (OpenSpec.upto fnExactCornerCountSpec)

/-- 'laws.FnEdges', WHERE WHAT IT READS IS OF BULK AT MOST 1048576: true; the input reads as it did. -/
def fnEdgesUptoRow : OpenClaim := { program := "ytaecheolnpofeaa", sum := "b95c16f54710870ae7d3a2232d350fc44ff90492fb4c3c78eecef1f74bb436f3", func := "loop.example/g00919/laws.FnEdges", spec := "fnEdges", plainKeys := false, apart := false, narrowed := true }
def FnEdgesUptoSaid : Prop := fnEdgesUptoRow.holds Try.pinned (OpenSpec.upto fnEdgesSpec)

/-- 'laws.FnExactHolesOf', WHERE WHAT IT READS IS OF BULK AT MOST 1048576: true; the input reads as it did. -/
def fnExactHolesOfUptoRow : OpenClaim := { program := "ytaecheolnpofeaa", sum := "b95c16f54710870ae7d3a2232d350fc44ff90492fb4c3c78eecef1f74bb436f3", func := "loop.example/g00919/laws.FnExactHolesOf", spec := "fnExactHolesOf", unfollowed := true, recurses := true, plainKeys := false, apart := false, narrowed := true }
def FnExactHolesOfUptoSaid : Prop := fnExactHolesOfUptoRow.holds Try.pinned (OpenSpec.upto fnExactHolesOfSpec)

/-- 'laws.FnExactFillHoles', WHERE WHAT IT READS IS OF BULK AT MOST 1048576: true; the input reads as it did. -/
def fnExactFillHolesUptoRow : OpenClaim := { program := "ytaecheolnpofeaa", sum := "b95c16f54710870ae7d3a2232d350fc44ff90492fb4c3c78eecef1f74bb436f3", func := "loop.example/g00919/laws.FnExactFillHoles", spec := "fnExactFillHoles", unfollowed := true, recurses := true, plainKeys := false, apart := false, narrowed := true }
def FnExactFillHolesUptoSaid : Prop := fnExactFillHolesUptoRow.holds Try.pinned (OpenSpec.upto fnExactFillHolesSpec)

/-- 'laws.FnHoles', WHERE WHAT IT READS IS OF BULK AT MOST 1048576: true; the input reads as it did. -/
def fnHolesUptoRow : OpenClaim := { program := "ytaecheolnpofeaa", sum := "b95c16f54710870ae7d3a2232d350fc44ff90492fb4c3c78eecef1f74bb436f3", func := "loop.example/g00919/laws.FnHoles", spec := "fnHoles", unfollowed := true, recurses := true, plainKeys := false, apart := false, narrowed := true }
def FnHolesUptoSaid : Prop := fnHolesUptoRow.holds Try.pinned (OpenSpec.upto fnHolesSpec)

end Rows
end Go.Proofs.Ytaecheolnpofeaa
