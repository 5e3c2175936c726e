/- Both sides answer alike on what is connected by hexagons. -/
import Derived.Test.YtkbhkdnanoddoaaGrow
import Derived.Test.YtkbhkdnanoddoaaPartsHex
import Derived.Test.YtkbhkdnanoddoaaFx38
import Derived.Test.YtkbhkdnanoddoaaFx39
import Derived.Test.YtkbhkdnanoddoaaFx40
namespace Go.Proofs.Ytkbhkdnanoddoaa.L
open Go.RowKit Go.Proofs.YtkbhkdnanoddoaaW.PrintWords Go.Proofs.YtkbhkdnanoddoaaW.PrintLast Go.Proofs.YtkbhkdnanoddoaaW.PrintMore Go.Proofs.Ytkbhkdnanoddoaa.F
set_option linter.unusedVariables false
set_option linter.unusedSimpArgs false
theorem shape_fine {l : List Cell} (h : shapeB l = true) : l ≠ [] ∧ l.Nodup ∧ l.all wfC = true ∧ l.length ≤ 1048576 := by
  obtain ⟨h1, h2, h3, h4⟩ := shapeB_iff.1 h
  refine ⟨shape_ne h, h2.imp fun {a b} hab e => ?_, List.all_eq_true.2 fun c hc => wfC_ok (h1 c hc), by omega⟩
  subst e
  unfold ltC at hab
  omega
def hexB (l : List Cell) : Bool := shapeB l && oneB (partsR hexC l)
theorem specHexConn_ev (l : List Cell) (hs : small l) : Ev (fun k => spec_IsHexConnected.f k l) (hexB l) := by
  unfold spec_IsHexConnected.f hexB
  refine Ev.bind (specIsShape_ev l hs) ?_
  by_cases h : shapeB l = true
  · obtain ⟨h1, h2, h3, h4⟩ := shape_fine h
    refine Ev.pos h (Ev.bind (gr_ev 1 hexC specHex_eq hexC_len l h4 h1 h2) (Ev.of_eq (Ev.now _) ?_))
    simp [h]
  · exact Ev.neg h (Ev.of_eq (Ev.now _) (by simp [h]))
theorem implHexConn_ev (l : List Cell) (hs : small l) : Ev (fun k => impl_IsHexConnected.f k l) (hexB l) := by
  unfold impl_IsHexConnected.f hexB
  refine Ev.bind (implIsShape_ev l hs) ?_
  by_cases h : shapeB l = true
  · obtain ⟨h1, h2, h3, h4⟩ := shape_fine h
    refine Ev.pos h (Ev.bind (ph_conn l h4 h1 h2 h3) (Ev.of_eq (Ev.now _) ?_))
    simp [h]
  · exact Ev.neg h (Ev.of_eq (Ev.now _) (by simp [h]))
end Go.Proofs.Ytkbhkdnanoddoaa.L
namespace Go.Proofs.Ytkbhkdnanoddoaa.Pure
open Go.RowKit Go.Proofs.YtkbhkdnanoddoaaW.PrintWords Go.Proofs.Ytkbhkdnanoddoaa.F Go.Proofs.Ytkbhkdnanoddoaa.L
set_option linter.unusedVariables false

theorem FnExactIsHexConnected (l : List LCell) {V : LCell → Prop} (hv : l.length ≤ 9223372036854775807 ∧ ∀ a ∈ l, V a) : ∃ k, laws_FnExactIsHexConnected.f k l = some true := by
  refine Ev.rounds ?_
  unfold laws_FnExactIsHexConnected.f
  rw [szCellS_eq l 1048576 (by decide) (by decide) hv.1]
  simp only [Option.bind_some]
  by_cases h : (1048576 : Int) - (l.length : Int) < 0
  · rw [if_pos h]; exact Ev.pos (by decide) (Ev.now _)
  · rw [if_neg h]
    refine Ev.neg h ?_
    have la : l.length ≤ 1048576 := by omega
    have hs : small (l.map cellOf) := by unfold small; simp; omega
    refine Ev.bind (toCellS_ev l la) (Ev.bind (specHexConn_ev _ hs) (Ev.bind (toCellS_ev l la) (Ev.bind (implHexConn_ev _ hs) (Ev.neg (by simp) ?_))))
    exact Ev.bind (toCellS_ev l la) (Ev.bind (eqCellS_ev _ hs) (Ev.pos rfl (Ev.now _)))
end Go.Proofs.Ytkbhkdnanoddoaa.Pure
