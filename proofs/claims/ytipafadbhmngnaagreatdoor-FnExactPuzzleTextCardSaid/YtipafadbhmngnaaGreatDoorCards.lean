/-
  DERIVED. GIVEN WITH THE SEED: THE CARDS: each row of YtipafadbhmngnaaGreatDoorRows.lean that lists a variable, with what it lists TIED to the program's text (the seventh form; the later family's looks); each row that meets fmt, with fmt's text TOLD by the authors' own Lean function (tested against real Go, not proved from fmt's source: count such statements apart). THE CARD IS WHAT COUNTS. Prove the row's statement (the work); the ties are given (YtipafadbhmngnaaGreatDoorTie.lean); close each card by the builder's one call (the guide's Derived/Test/ToyasCard.lean, 'card_holds'). Laid BY PROGRAM, IN A SANDBOX (cutbox-door.mjs). By AI agents, Wed Nov 11 2026. No macro, syntax, notation, axiom, sorry.
-/
import Derived.Test.YtipafadbhmngnaaGreatDoorRows
import GoSem.ClaimSeven
namespace Go.Proofs.YtipafadbhmngnaaGreatDoor
namespace Rows

/-- THE TIED CARD OF 'laws.FnExactPuzzleText'. -/
def fnExactPuzzleTextCard : Claim7 := { stood := { row := fnExactPuzzleTextRow, standIns := [], harness := (true, "4b774b803b1c432180b8f9517a188008453e733500e22e363354fcd192e37915"), looks := false }, kinds := [], alts := [], laidByText := true, laidKinds := [.data, .data, .data], laidTests := true, laidLooks := .later }
def FnExactPuzzleTextCardSaid : Prop := Claim7.holds Tryz.pinned (.plain (OpenSpec.ofChange fnExactPuzzleTextSpec)) fnExactPuzzleTextCard

/-- THE TIED CARD OF 'laws.FnExactReadPuzzle'. -/
def fnExactReadPuzzleCard : Claim7 := { stood := { row := fnExactReadPuzzleRow, standIns := [], harness := (true, "4b774b803b1c432180b8f9517a188008453e733500e22e363354fcd192e37915"), looks := false }, kinds := [], alts := [], laidByText := true, laidKinds := [.data, .data, .data, .data, .pinned], laidTests := true, laidLooks := .later }
def FnExactReadPuzzleCardSaid : Prop := Claim7.holds Tryz.pinned (.plain (OpenSpec.ofChange fnExactReadPuzzleSpec)) fnExactReadPuzzleCard

/-- THE TIED CARD OF 'laws.FnPuzzles'. -/
def fnPuzzlesCard : Claim7 := { stood := { row := fnPuzzlesRow, standIns := [], harness := (true, "4b774b803b1c432180b8f9517a188008453e733500e22e363354fcd192e37915"), looks := false }, kinds := [], alts := [], laidByText := true, laidKinds := [.data, .data, .data, .data, .pinned], laidTests := true, laidLooks := .later }
def FnPuzzlesCardSaid : Prop := Claim7.holds Tryz.pinned (.plain (OpenSpec.ofChange fnPuzzlesSpec)) fnPuzzlesCard

/-- THE SECOND FORM's CARD OF 'laws.FnExactPuzzleText'. -/
def fnExactPuzzleTextUptoCard : Claim7 := { stood := { row := fnExactPuzzleTextUptoRow, standIns := [], harness := (true, "4b774b803b1c432180b8f9517a188008453e733500e22e363354fcd192e37915"), looks := false }, kinds := [], alts := [], laidByText := true, laidKinds := [.data, .data, .data], laidTests := true, laidLooks := .later }
def FnExactPuzzleTextUptoCardSaid : Prop := Claim7.holds Tryz.pinned (.plain (OpenSpec.upto fnExactPuzzleTextSpec)) fnExactPuzzleTextUptoCard

/-- THE SECOND FORM's CARD OF 'laws.FnExactReadPuzzle'. -/
def fnExactReadPuzzleUptoCard : Claim7 := { stood := { row := fnExactReadPuzzleUptoRow, standIns := [], harness := (true, "4b774b803b1c432180b8f9517a188008453e733500e22e363354fcd192e37915"), looks := false }, kinds := [], alts := [], laidByText := true, laidKinds := [.data, .data, .data, .data, .pinned], laidTests := true, laidLooks := .later }
def FnExactReadPuzzleUptoCardSaid : Prop := Claim7.holds Tryz.pinned (.plain (OpenSpec.upto fnExactReadPuzzleSpec)) fnExactReadPuzzleUptoCard

/-- THE SECOND FORM's CARD OF 'laws.FnPuzzles'. -/
def fnPuzzlesUptoCard : Claim7 := { stood := { row := fnPuzzlesUptoRow, standIns := [], harness := (true, "4b774b803b1c432180b8f9517a188008453e733500e22e363354fcd192e37915"), looks := false }, kinds := [], alts := [], laidByText := true, laidKinds := [.data, .data, .data, .data, .pinned], laidTests := true, laidLooks := .later }
def FnPuzzlesUptoCardSaid : Prop := Claim7.holds Tryz.pinned (.plain (OpenSpec.upto fnPuzzlesSpec)) fnPuzzlesUptoCard
end Rows
end Go.Proofs.YtipafadbhmngnaaGreatDoor
