/- The six neighbours of a hexagon are told alike; what is handed back is new memory each time. -/
import Derived.Test.YtkbhkdnanoddoaaCells
import Derived.Test.YtkbhkdnanoddoaaFx10
import Derived.Test.YtkbhkdnanoddoaaFx9
namespace Go.Proofs.Ytkbhkdnanoddoaa.Pure
open Go.RowKit Go.Proofs.YtkbhkdnanoddoaaW.PrintWords Go.Proofs.Ytkbhkdnanoddoaa.F Go.Proofs.Ytkbhkdnanoddoaa.L
set_option linter.unusedVariables false

def six (x y : Int) : List Cell := [⟨x, wrap64 (y - 1)⟩, ⟨wrap64 (x + 1), wrap64 (y - 1)⟩, ⟨wrap64 (x - 1), y⟩, ⟨wrap64 (x + 1), y⟩, ⟨wrap64 (x - 1), wrap64 (y + 1)⟩, ⟨x, wrap64 (y + 1)⟩]
def hexR (x y : Int) : List Cell × Int := if ok1 x ∧ ok1 y then (six x y, 0) else ([], 2)
theorem specHex_eq (x y : Int) : spec_HexAround.f x y = some (hexR x y) := by
  unfold spec_HexAround.f hexR
  rw [l02Cell_eq]
  simp only [Option.bind_some]
  by_cases h : ok1 x ∧ ok1 y
  · simp [h]; rfl
  · simp [h]
theorem implHex_eq (x y : Int) : impl_HexAround.f x y = some (hexR x y) := by
  unfold impl_HexAround.f hexR
  simp only [isCoordinate_eq, Option.bind_some]
  by_cases h : ok1 x <;> by_cases h' : ok1 y <;> simp [h, h']
  rfl
theorem hex_fits (x y : Int) : fits (hexR x y).1 := by
  unfold hexR fits
  split <;> simp [six]

theorem FnExactHexAround (x y : Int) {V : Prop} (_ : V) : ∃ k, laws_FnExactHexAround.f k x y = some true := by
  refine Ev.rounds ?_
  have hf := hex_fits x y
  unfold laws_FnExactHexAround.f
  simp only [toCell_eq, specHex_eq, implHex_eq, Option.bind_some]
  refine Ev.bind (eqCellS_ev _ hf.small) (Ev.pos rfl (Ev.step (fun k => laws_FnExactHexAround.j0.eq_2 ..) (Ev.neg (by simp) ?_)))
  refine Ev.bind (markCellS_ev _ hf) (Ev.bind (heldCellS_ev _ hf) (Ev.neg (by omega) (Ev.pos rfl ?_)))
  simp only [toCell_eq, implHex_eq, Option.bind_some]
  refine Ev.bind (eqCellS_ev _ hf.small) (Ev.pos rfl (Ev.step (fun k => laws_FnExactHexAround.j1.eq_2 ..) (Ev.neg (by simp) ?_)))
  exact Ev.bind (heldCellS_ev _ hf) (Ev.neg (by omega) (Ev.pos rfl (Ev.now _)))
end Go.Proofs.Ytkbhkdnanoddoaa.Pure
