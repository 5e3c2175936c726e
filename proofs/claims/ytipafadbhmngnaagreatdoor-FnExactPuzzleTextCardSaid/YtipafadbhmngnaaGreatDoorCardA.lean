/- The tied card of the law FnExactPuzzleText, out of its row and the given tie. -/
import Derived.Test.YtipafadbhmngnaaGreatDoorQ10
import Derived.Test.YtipafadbhmngnaaGreatDoorCards
import Derived.Test.YtipafadbhmngnaaGreatDoorTie
import Derived.SevenTiedAt
namespace Go.Proofs.YtipafadbhmngnaaGreatDoor
open Go
/-- The card. -/
theorem fnExactPuzzleText_card : Rows.FnExactPuzzleTextCardSaid :=
  Claim7.holds_tied_plain_at .later [] [.data, .data, .data] true (true, "4b774b803b1c432180b8f9517a188008453e733500e22e363354fcd192e37915") false
    fnExactPuzzleText_holds (fun _ h => by cases h) (by kernel_rfl) (fun _ h => by cases h) fnExactPuzzleText_row_tie rfl ⟨rfl, rfl⟩ (by kernel_rfl) rfl
    (fun f fn hf hfn => by
      obtain rfl : f = 3 := Option.some.inj ((show Tryz.prog.funcNamed "loop.example/g00919/laws.FnExactPuzzleText" = some 3 by kernel_rfl).symm.trans hf) |>.symm
      obtain rfl : fn = Tryz.f3 := (Option.some.inj (Tryz.func3.symm.trans hfn)).symm
      exact ⟨by kernel_rfl, fun j t ht => by
        rw [Tryz.params3] at ht
        have hm : t ∈ [25] := by simpa using Array.mem_of_getElem? ht
        have hall : ([25].all fun u => !Tryz.prog.wantsStandIn u) = true := by kernel_rfl
        exact (show Tryz.prog.wantsStandIn t = false by simpa using List.all_eq_true.1 hall t hm)⟩)
    (by kernel_rfl)
#print axioms fnExactPuzzleText_card
end Go.Proofs.YtipafadbhmngnaaGreatDoor
