/- Both sides tell alike whether two placements have a number in common. -/
import Derived.Test.YtabdmdkoffpppaaHasI
import Derived.Test.YtabdmdkoffpppaaPlaceEv
import Derived.Test.YtabdmdkoffpppaaFx3
import Derived.Test.YtabdmdkoffpppaaFx4
import Derived.Test.YtabdmdkoffpppaaFx8
import Derived.Test.YtabdmdkoffpppaaFOpn
namespace Go.Proofs.Ytabdmdkoffpppaa.Pure
open Go.RowKit Go.Proofs.YtabdmdkoffpppaaW.PrintWords Go.Proofs.Ytabdmdkoffpppaa.F Go.Proofs.Ytabdmdkoffpppaa.L
set_option linter.unusedVariables false
set_option linter.unusedSimpArgs false
def meetI (a b : List Int) : Bool := a.any fun i => hasI b i
theorem specOverlap_ev (p : Int) (a : List Int) (q : Int) (b : List Int) (ha : small a) (hb : small b) : Ev (fun k => spec_DoOverlap.f k p a q b) (meetI a b) := by
  unfold spec_DoOverlap.f spec_l12Overlap.f
  refine Ev.bind ?_ (Ev.now _)
  refine loop_list a (fun k j (_ : Unit) => spec_l12Overlap.l0 k a b j) (fun pre suf _ => meetI suf b) (fun _ _ => True) ?_ ?_ () trivial
  · intro _ _
    simp only [spec_l12Overlap.l0, len_lt, if_false]
    exact Ev.of_eq (Ev.now _) (by simp [meetI])
  · intro pre c suf _ hx _ ih
    simp only [spec_l12Overlap.l0, pre_lt hx, pre_0, if_true, at_preI hx, pre_w hx ha]
    refine Ev.bind (specHas_ev b c hb) ?_
    by_cases hc : hasI b c = true
    · exact Ev.pos hc (Ev.of_eq (Ev.now _) (by simp [meetI, hc]))
    · exact Ev.neg hc (Ev.of_eq (ih () trivial) (by simp [meetI, hc]))
theorem all_some {f : Nat → Int → Option Bool} {g : Int → Bool} : ∀ (l : List Int), (∀ x ∈ l, Ev (fun k => f k x) (g x)) → ∃ n, ∀ k, n ≤ k → ∀ x ∈ l, f k x = some (g x)
  | [], _ => ⟨0, fun _ _ x hx => by simp at hx⟩
  | a :: r, h => by
    obtain ⟨n, hn⟩ := all_some r fun x hx => h x (List.mem_cons_of_mem _ hx)
    obtain ⟨m, hm⟩ := h a List.mem_cons_self
    refine ⟨n + m, fun k hk x hx => ?_⟩
    rcases List.mem_cons.1 hx with rfl | hx
    · exact hm k (by omega)
    · exact hn k (by omega) x hx
theorem implOverlap_ev (p : Int) (a : List Int) (q : Int) (b : List Int) (ha : a.length ≤ 1048576) (hb : small b) : Ev (fun k => impl_DoOverlap.f k p a q b) (meetI a b) := by
  obtain ⟨n, hn⟩ := all_some (f := fun k x => slices_Contains_int64_int64.f k b x) (g := fun x => hasI b x) a fun x _ => implHas_ev b x hb
  refine ⟨n, fun k hk => ?_⟩
  have h := hn k hk
  show impl_DoOverlap.f k p a q b = _
  unfold impl_DoOverlap.f
  rw [if_pos ⟨by omega, List.all_eq_true.2 fun x hx => by rw [h x hx]; rfl⟩]
  congr 1
  unfold meetI
  rw [Bool.eq_iff_iff, List.any_eq_true, List.any_eq_true]
  constructor
  · rintro ⟨x, hx, e⟩
    rw [h x hx] at e
    exact ⟨x, hx, by simpa using e⟩
  · rintro ⟨x, hx, e⟩
    exact ⟨x, hx, by rw [h x hx, e]; rfl⟩
theorem FnExactDoOverlap (p : Int) (a : List Int) (q : Int) (b : List Int) (va : V24 ⟨p, a⟩) (vb : V24 ⟨q, b⟩) : ∃ k, laws_FnExactDoOverlap.f k p a q b = some true := by
  refine Ev.rounds ?_
  have wa : a.length ≤ 9223372036854775807 := va.2.1
  have wb : b.length ≤ 9223372036854775807 := vb.2.1
  unfold laws_FnExactDoOverlap.f
  rw [szPlacement_eq p a 1048576 (by decide) (by decide) wa]
  simp only [Option.bind_some]
  by_cases h : (1048576 : Int) - (a.length : Int) < 0
  · rw [if_pos h]; exact Ev.pos (by decide) (Ev.now _)
  · rw [if_neg h]
    refine Ev.neg h ?_
    rw [szPlacement_eq q b _ (by omega) (by omega) wb]
    simp only [Option.bind_some]
    by_cases h' : (1048576 : Int) - (a.length : Int) - (b.length : Int) < 0
    · rw [if_pos h']; exact Ev.pos (by decide) (Ev.now _)
    · rw [if_neg h']
      refine Ev.neg h' ?_
      have la : a.length ≤ 1048576 := by omega
      have lb : b.length ≤ 1048576 := by omega
      have ha : small a := by unfold small; omega
      have hb : small b := by unfold small; omega
      refine Ev.bind (toPlacement_ev p a la) (Ev.bind (toPlacement_ev q b lb) (Ev.bind (specOverlap_ev p a q b ha hb) (Ev.bind (toPlacement_ev p a la) (Ev.bind (toPlacement_ev q b lb) (Ev.bind (implOverlap_ev p a q b la hb) (Ev.neg (by simp) ?_))))))
      refine Ev.bind (toPlacement_ev p a la) (Ev.bind (eqPlacement_ev p a ha) (Ev.pos rfl (Ev.bind (toPlacement_ev q b lb) (Ev.bind (eqPlacement_ev q b hb) (Ev.pos rfl (Ev.now _))))))
end Go.Proofs.Ytabdmdkoffpppaa.Pure
