/- The row of FnRestParts, with what it needs: text 8 of 13. -/
import Derived.Test.YtabdmdkoffpppaaKFR6
set_option maxHeartbeats 8000000
set_option maxRecDepth 100000
section
namespace Go.Proofs.Ytabdmdkoffpppaa.F
open Go.RowKit Go.Proofs.YtabdmdkoffpppaaW.PrintWords Go.Proofs.YtabdmdkoffpppaaW.PrintLast Go.Proofs.YtabdmdkoffpppaaW.PrintMore
attribute [local go_sem] max2_int min2_int max_two min_two max_three min_three max_four min_four
set_option linter.unusedVariables false
set_option linter.unusedSimpArgs false
theorem spec_l02Draw.calls (k : Nat) (g : Nat) (s0_0 : List Int) (s0_1 : Int) (s0_2 : Int) (r1 : List (S59)) (r2 : Int) (r3 : Int) (w0 w : World) (hI : IsS132 w0 w g s0_0 s0_1 s0_2) (hB : Below w0.heap.size w0 w) (h : spec_l02Draw.f k s0_0 s0_1 s0_2 = some (r1, r2, r3)) :
  Calls Try.prog 119 #[.pointer (some ⟨g, 0, none⟩)] w fun e w' => ∃ v0_ : Value, e = .returned (v0_) ∧ Kd.R k59 59 w' w.heap.size (fun _ => True) v0_ r1 ∧ IsS132 w0 w' g s0_0 r2 r3 ∧ Below w0.heap.size w0 w' ∧ KeepBut w w' g none := by
 have hu59 := Try.underlying59
 have HI0 := aM hI
 have HK := aM (KeepBut.refl w g none)
 have HL := aM hB.size
 clear hI
 have HW0 := aM hB.size
 have HB := aM hB
 clear hB
 have H : ((spec_l02DrawPoly.f k s0_0 s0_1 s0_2 8).bind fun bt672 => ((spec_l01Next.f s0_0 bt672.2.1 bt672.2.2 9).bind fun bt677 => ((spec_l01Next.f s0_0 bt677.2.1 bt677.2.2 9).bind fun bt680 => ((spec_l02Move.f k bt672.1 (wrap64 (bt677.1 - 4)) (wrap64 (bt680.1 - 4))).bind fun t683 => ((spec_l01Next.f s0_0 bt680.2.1 bt680.2.2 (t683.length : Int)).bind fun bt686 => ((spec_l01Next.f s0_0 bt686.2.1 bt686.2.2 24).bind fun bt689 => (if bt689.1 = 0 then ((some (([(-100), 100, 101] : List Int) : List Int)).bind fun y692 => ((spec_l01Next.f s0_0 bt689.2.1 bt689.2.2 3).bind fun bt695 => (if 0 ≤ bt695.1 then (if bt695.1 < (y692.length : Int) then (if 0 ≤ bt686.1 then (if bt686.1 < (t683.length : Int) then ((spec_l02Sort.f k (t683.set (bt686.1 : Int).toNat (⟨rd y692 bt695.1, (rd_T59 t683 bt686.1).f1⟩ : S59))).bind fun t700 => (some (t700, bt695.2.1, bt695.2.2))) else (none)) else (none)) else (none)) else (none)))) else (if bt689.1 = 1 then (if 0 ≤ bt686.1 then (if bt686.1 < (t683.length : Int) then (if t683.length < 8796093022208 then (some ((t683 ++ [(⟨(rd_T59 t683 bt686.1).f0, (rd_T59 t683 bt686.1).f1⟩ : S59)]), bt689.2.1, bt689.2.2)) else (none)) else (none)) else (none)) else (if bt689.1 = 2 then (some (([] : List (S59)), bt689.2.1, bt689.2.2)) else (if bt689.1 = 3 then (spec_l02Draw.l0 k (([] : List (S59))) 0 s0_0 bt689.2.1 bt689.2.2) else (if bt689.1 = 4 then (if 0 < (t683.length : Int) then (if 0 ≤ (wrap64 ((t683.length : Int) - 1)) then (if (wrap64 ((t683.length : Int) - 1)) < (t683.length : Int) then (if t683.length < 8796093022208 then (some ((t683 ++ [(⟨wrap64 (((rd_T59 t683 0).f0) + 3), wrap64 (((rd_T59 t683 (wrap64 ((t683.length : Int) - 1))).f1) + 2)⟩ : S59)]), bt689.2.1, bt689.2.2)) else (none)) else (none)) else (none)) else (none)) else (if bt689.1 = 5 then (if 0 < (t683.length : Int) then (if 0 ≤ (wrap64 ((t683.length : Int) - 1)) then (if (wrap64 ((t683.length : Int) - 1)) < (t683.length : Int) then (if t683.length < 8796093022208 then (some ((t683 ++ [(⟨wrap64 (((rd_T59 t683 0).f0) + 3), wrap64 (((rd_T59 t683 (wrap64 ((t683.length : Int) - 1))).f1) + 2)⟩ : S59)]), bt689.2.1, bt689.2.2)) else (none)) else (none)) else (none)) else (none)) else (some (t683, bt689.2.1, bt689.2.2)))))))))))))) = some (r1, r2, r3) := h
 clear h
 replace H := Option.bind_eq_some_iff.mp H
 obtain ⟨⟨t672, t675, t676⟩, A20, H⟩ := H
 replace H : ((spec_l01Next.f s0_0 t675 t676 9).bind fun bt677 => ((spec_l01Next.f s0_0 bt677.2.1 bt677.2.2 9).bind fun bt680 => ((spec_l02Move.f k t672 (wrap64 (bt677.1 - 4)) (wrap64 (bt680.1 - 4))).bind fun t683 => ((spec_l01Next.f s0_0 bt680.2.1 bt680.2.2 (t683.length : Int)).bind fun bt686 => ((spec_l01Next.f s0_0 bt686.2.1 bt686.2.2 24).bind fun bt689 => (if bt689.1 = 0 then ((some (([(-100), 100, 101] : List Int) : List Int)).bind fun y692 => ((spec_l01Next.f s0_0 bt689.2.1 bt689.2.2 3).bind fun bt695 => (if 0 ≤ bt695.1 then (if bt695.1 < (y692.length : Int) then (if 0 ≤ bt686.1 then (if bt686.1 < (t683.length : Int) then ((spec_l02Sort.f k (t683.set (bt686.1 : Int).toNat (⟨rd y692 bt695.1, (rd_T59 t683 bt686.1).f1⟩ : S59))).bind fun t700 => (some (t700, bt695.2.1, bt695.2.2))) else (none)) else (none)) else (none)) else (none)))) else (if bt689.1 = 1 then (if 0 ≤ bt686.1 then (if bt686.1 < (t683.length : Int) then (if t683.length < 8796093022208 then (some ((t683 ++ [(⟨(rd_T59 t683 bt686.1).f0, (rd_T59 t683 bt686.1).f1⟩ : S59)]), bt689.2.1, bt689.2.2)) else (none)) else (none)) else (none)) else (if bt689.1 = 2 then (some (([] : List (S59)), bt689.2.1, bt689.2.2)) else (if bt689.1 = 3 then (spec_l02Draw.l0 k (([] : List (S59))) 0 s0_0 bt689.2.1 bt689.2.2) else (if bt689.1 = 4 then (if 0 < (t683.length : Int) then (if 0 ≤ (wrap64 ((t683.length : Int) - 1)) then (if (wrap64 ((t683.length : Int) - 1)) < (t683.length : Int) then (if t683.length < 8796093022208 then (some ((t683 ++ [(⟨wrap64 (((rd_T59 t683 0).f0) + 3), wrap64 (((rd_T59 t683 (wrap64 ((t683.length : Int) - 1))).f1) + 2)⟩ : S59)]), bt689.2.1, bt689.2.2)) else (none)) else (none)) else (none)) else (none)) else (if bt689.1 = 5 then (if 0 < (t683.length : Int) then (if 0 ≤ (wrap64 ((t683.length : Int) - 1)) then (if (wrap64 ((t683.length : Int) - 1)) < (t683.length : Int) then (if t683.length < 8796093022208 then (some ((t683 ++ [(⟨wrap64 (((rd_T59 t683 0).f0) + 3), wrap64 (((rd_T59 t683 (wrap64 ((t683.length : Int) - 1))).f1) + 2)⟩ : S59)]), bt689.2.1, bt689.2.2)) else (none)) else (none)) else (none)) else (none)) else (some (t683, bt689.2.1, bt689.2.2))))))))))))) = some (r1, r2, r3) := H
 have A2 := aM A20
 clear A20
 replace H := Option.bind_eq_some_iff.mp H
 obtain ⟨⟨t677, t678, t679⟩, A30, H⟩ := H
 replace H : ((spec_l01Next.f s0_0 t678 t679 9).bind fun bt680 => ((spec_l02Move.f k t672 (wrap64 (t677 - 4)) (wrap64 (bt680.1 - 4))).bind fun t683 => ((spec_l01Next.f s0_0 bt680.2.1 bt680.2.2 (t683.length : Int)).bind fun bt686 => ((spec_l01Next.f s0_0 bt686.2.1 bt686.2.2 24).bind fun bt689 => (if bt689.1 = 0 then ((some (([(-100), 100, 101] : List Int) : List Int)).bind fun y692 => ((spec_l01Next.f s0_0 bt689.2.1 bt689.2.2 3).bind fun bt695 => (if 0 ≤ bt695.1 then (if bt695.1 < (y692.length : Int) then (if 0 ≤ bt686.1 then (if bt686.1 < (t683.length : Int) then ((spec_l02Sort.f k (t683.set (bt686.1 : Int).toNat (⟨rd y692 bt695.1, (rd_T59 t683 bt686.1).f1⟩ : S59))).bind fun t700 => (some (t700, bt695.2.1, bt695.2.2))) else (none)) else (none)) else (none)) else (none)))) else (if bt689.1 = 1 then (if 0 ≤ bt686.1 then (if bt686.1 < (t683.length : Int) then (if t683.length < 8796093022208 then (some ((t683 ++ [(⟨(rd_T59 t683 bt686.1).f0, (rd_T59 t683 bt686.1).f1⟩ : S59)]), bt689.2.1, bt689.2.2)) else (none)) else (none)) else (none)) else (if bt689.1 = 2 then (some (([] : List (S59)), bt689.2.1, bt689.2.2)) else (if bt689.1 = 3 then (spec_l02Draw.l0 k (([] : List (S59))) 0 s0_0 bt689.2.1 bt689.2.2) else (if bt689.1 = 4 then (if 0 < (t683.length : Int) then (if 0 ≤ (wrap64 ((t683.length : Int) - 1)) then (if (wrap64 ((t683.length : Int) - 1)) < (t683.length : Int) then (if t683.length < 8796093022208 then (some ((t683 ++ [(⟨wrap64 (((rd_T59 t683 0).f0) + 3), wrap64 (((rd_T59 t683 (wrap64 ((t683.length : Int) - 1))).f1) + 2)⟩ : S59)]), bt689.2.1, bt689.2.2)) else (none)) else (none)) else (none)) else (none)) else (if bt689.1 = 5 then (if 0 < (t683.length : Int) then (if 0 ≤ (wrap64 ((t683.length : Int) - 1)) then (if (wrap64 ((t683.length : Int) - 1)) < (t683.length : Int) then (if t683.length < 8796093022208 then (some ((t683 ++ [(⟨wrap64 (((rd_T59 t683 0).f0) + 3), wrap64 (((rd_T59 t683 (wrap64 ((t683.length : Int) - 1))).f1) + 2)⟩ : S59)]), bt689.2.1, bt689.2.2)) else (none)) else (none)) else (none)) else (none)) else (some (t683, bt689.2.1, bt689.2.2)))))))))))) = some (r1, r2, r3) := H
 have A3 := aM A30
 clear A30
 replace H := Option.bind_eq_some_iff.mp H
 obtain ⟨⟨t680, t681, t682⟩, A40, H⟩ := H
 replace H : ((spec_l02Move.f k t672 (wrap64 (t677 - 4)) (wrap64 (t680 - 4))).bind fun t683 => ((spec_l01Next.f s0_0 t681 t682 (t683.length : Int)).bind fun bt686 => ((spec_l01Next.f s0_0 bt686.2.1 bt686.2.2 24).bind fun bt689 => (if bt689.1 = 0 then ((some (([(-100), 100, 101] : List Int) : List Int)).bind fun y692 => ((spec_l01Next.f s0_0 bt689.2.1 bt689.2.2 3).bind fun bt695 => (if 0 ≤ bt695.1 then (if bt695.1 < (y692.length : Int) then (if 0 ≤ bt686.1 then (if bt686.1 < (t683.length : Int) then ((spec_l02Sort.f k (t683.set (bt686.1 : Int).toNat (⟨rd y692 bt695.1, (rd_T59 t683 bt686.1).f1⟩ : S59))).bind fun t700 => (some (t700, bt695.2.1, bt695.2.2))) else (none)) else (none)) else (none)) else (none)))) else (if bt689.1 = 1 then (if 0 ≤ bt686.1 then (if bt686.1 < (t683.length : Int) then (if t683.length < 8796093022208 then (some ((t683 ++ [(⟨(rd_T59 t683 bt686.1).f0, (rd_T59 t683 bt686.1).f1⟩ : S59)]), bt689.2.1, bt689.2.2)) else (none)) else (none)) else (none)) else (if bt689.1 = 2 then (some (([] : List (S59)), bt689.2.1, bt689.2.2)) else (if bt689.1 = 3 then (spec_l02Draw.l0 k (([] : List (S59))) 0 s0_0 bt689.2.1 bt689.2.2) else (if bt689.1 = 4 then (if 0 < (t683.length : Int) then (if 0 ≤ (wrap64 ((t683.length : Int) - 1)) then (if (wrap64 ((t683.length : Int) - 1)) < (t683.length : Int) then (if t683.length < 8796093022208 then (some ((t683 ++ [(⟨wrap64 (((rd_T59 t683 0).f0) + 3), wrap64 (((rd_T59 t683 (wrap64 ((t683.length : Int) - 1))).f1) + 2)⟩ : S59)]), bt689.2.1, bt689.2.2)) else (none)) else (none)) else (none)) else (none)) else (if bt689.1 = 5 then (if 0 < (t683.length : Int) then (if 0 ≤ (wrap64 ((t683.length : Int) - 1)) then (if (wrap64 ((t683.length : Int) - 1)) < (t683.length : Int) then (if t683.length < 8796093022208 then (some ((t683 ++ [(⟨wrap64 (((rd_T59 t683 0).f0) + 3), wrap64 (((rd_T59 t683 (wrap64 ((t683.length : Int) - 1))).f1) + 2)⟩ : S59)]), bt689.2.1, bt689.2.2)) else (none)) else (none)) else (none)) else (none)) else (some (t683, bt689.2.1, bt689.2.2))))))))))) = some (r1, r2, r3) := H
 have A4 := aM A40
 clear A40
 replace H := Option.bind_eq_some_iff.mp H
 obtain ⟨t683, A50, H⟩ := H
 replace H : ((spec_l01Next.f s0_0 t681 t682 (t683.length : Int)).bind fun bt686 => ((spec_l01Next.f s0_0 bt686.2.1 bt686.2.2 24).bind fun bt689 => (if bt689.1 = 0 then ((some (([(-100), 100, 101] : List Int) : List Int)).bind fun y692 => ((spec_l01Next.f s0_0 bt689.2.1 bt689.2.2 3).bind fun bt695 => (if 0 ≤ bt695.1 then (if bt695.1 < (y692.length : Int) then (if 0 ≤ bt686.1 then (if bt686.1 < (t683.length : Int) then ((spec_l02Sort.f k (t683.set (bt686.1 : Int).toNat (⟨rd y692 bt695.1, (rd_T59 t683 bt686.1).f1⟩ : S59))).bind fun t700 => (some (t700, bt695.2.1, bt695.2.2))) else (none)) else (none)) else (none)) else (none)))) else (if bt689.1 = 1 then (if 0 ≤ bt686.1 then (if bt686.1 < (t683.length : Int) then (if t683.length < 8796093022208 then (some ((t683 ++ [(⟨(rd_T59 t683 bt686.1).f0, (rd_T59 t683 bt686.1).f1⟩ : S59)]), bt689.2.1, bt689.2.2)) else (none)) else (none)) else (none)) else (if bt689.1 = 2 then (some (([] : List (S59)), bt689.2.1, bt689.2.2)) else (if bt689.1 = 3 then (spec_l02Draw.l0 k (([] : List (S59))) 0 s0_0 bt689.2.1 bt689.2.2) else (if bt689.1 = 4 then (if 0 < (t683.length : Int) then (if 0 ≤ (wrap64 ((t683.length : Int) - 1)) then (if (wrap64 ((t683.length : Int) - 1)) < (t683.length : Int) then (if t683.length < 8796093022208 then (some ((t683 ++ [(⟨wrap64 (((rd_T59 t683 0).f0) + 3), wrap64 (((rd_T59 t683 (wrap64 ((t683.length : Int) - 1))).f1) + 2)⟩ : S59)]), bt689.2.1, bt689.2.2)) else (none)) else (none)) else (none)) else (none)) else (if bt689.1 = 5 then (if 0 < (t683.length : Int) then (if 0 ≤ (wrap64 ((t683.length : Int) - 1)) then (if (wrap64 ((t683.length : Int) - 1)) < (t683.length : Int) then (if t683.length < 8796093022208 then (some ((t683 ++ [(⟨wrap64 (((rd_T59 t683 0).f0) + 3), wrap64 (((rd_T59 t683 (wrap64 ((t683.length : Int) - 1))).f1) + 2)⟩ : S59)]), bt689.2.1, bt689.2.2)) else (none)) else (none)) else (none)) else (none)) else (some (t683, bt689.2.1, bt689.2.2)))))))))) = some (r1, r2, r3) := H
 have A5 := aM A50
 clear A50
 replace H := Option.bind_eq_some_iff.mp H
 obtain ⟨⟨t686, t687, t688⟩, A60, H⟩ := H
 replace H : ((spec_l01Next.f s0_0 t687 t688 24).bind fun bt689 => (if bt689.1 = 0 then ((some (([(-100), 100, 101] : List Int) : List Int)).bind fun y692 => ((spec_l01Next.f s0_0 bt689.2.1 bt689.2.2 3).bind fun bt695 => (if 0 ≤ bt695.1 then (if bt695.1 < (y692.length : Int) then (if 0 ≤ t686 then (if t686 < (t683.length : Int) then ((spec_l02Sort.f k (t683.set (t686 : Int).toNat (⟨rd y692 bt695.1, (rd_T59 t683 t686).f1⟩ : S59))).bind fun t700 => (some (t700, bt695.2.1, bt695.2.2))) else (none)) else (none)) else (none)) else (none)))) else (if bt689.1 = 1 then (if 0 ≤ t686 then (if t686 < (t683.length : Int) then (if t683.length < 8796093022208 then (some ((t683 ++ [(⟨(rd_T59 t683 t686).f0, (rd_T59 t683 t686).f1⟩ : S59)]), bt689.2.1, bt689.2.2)) else (none)) else (none)) else (none)) else (if bt689.1 = 2 then (some (([] : List (S59)), bt689.2.1, bt689.2.2)) else (if bt689.1 = 3 then (spec_l02Draw.l0 k (([] : List (S59))) 0 s0_0 bt689.2.1 bt689.2.2) else (if bt689.1 = 4 then (if 0 < (t683.length : Int) then (if 0 ≤ (wrap64 ((t683.length : Int) - 1)) then (if (wrap64 ((t683.length : Int) - 1)) < (t683.length : Int) then (if t683.length < 8796093022208 then (some ((t683 ++ [(⟨wrap64 (((rd_T59 t683 0).f0) + 3), wrap64 (((rd_T59 t683 (wrap64 ((t683.length : Int) - 1))).f1) + 2)⟩ : S59)]), bt689.2.1, bt689.2.2)) else (none)) else (none)) else (none)) else (none)) else (if bt689.1 = 5 then (if 0 < (t683.length : Int) then (if 0 ≤ (wrap64 ((t683.length : Int) - 1)) then (if (wrap64 ((t683.length : Int) - 1)) < (t683.length : Int) then (if t683.length < 8796093022208 then (some ((t683 ++ [(⟨wrap64 (((rd_T59 t683 0).f0) + 3), wrap64 (((rd_T59 t683 (wrap64 ((t683.length : Int) - 1))).f1) + 2)⟩ : S59)]), bt689.2.1, bt689.2.2)) else (none)) else (none)) else (none)) else (none)) else (some (t683, bt689.2.1, bt689.2.2))))))))) = some (r1, r2, r3) := H
 have A6 := aM A60
 clear A60
 replace H := Option.bind_eq_some_iff.mp H
 obtain ⟨⟨t689, t690, t691⟩, A70, H⟩ := H
 replace H : (if t689 = 0 then ((some (([(-100), 100, 101] : List Int) : List Int)).bind fun y692 => ((spec_l01Next.f s0_0 t690 t691 3).bind fun bt695 => (if 0 ≤ bt695.1 then (if bt695.1 < (y692.length : Int) then (if 0 ≤ t686 then (if t686 < (t683.length : Int) then ((spec_l02Sort.f k (t683.set (t686 : Int).toNat (⟨rd y692 bt695.1, (rd_T59 t683 t686).f1⟩ : S59))).bind fun t700 => (some (t700, bt695.2.1, bt695.2.2))) else (none)) else (none)) else (none)) else (none)))) else (if t689 = 1 then (if 0 ≤ t686 then (if t686 < (t683.length : Int) then (if t683.length < 8796093022208 then (some ((t683 ++ [(⟨(rd_T59 t683 t686).f0, (rd_T59 t683 t686).f1⟩ : S59)]), t690, t691)) else (none)) else (none)) else (none)) else (if t689 = 2 then (some (([] : List (S59)), t690, t691)) else (if t689 = 3 then (spec_l02Draw.l0 k (([] : List (S59))) 0 s0_0 t690 t691) else (if t689 = 4 then (if 0 < (t683.length : Int) then (if 0 ≤ (wrap64 ((t683.length : Int) - 1)) then (if (wrap64 ((t683.length : Int) - 1)) < (t683.length : Int) then (if t683.length < 8796093022208 then (some ((t683 ++ [(⟨wrap64 (((rd_T59 t683 0).f0) + 3), wrap64 (((rd_T59 t683 (wrap64 ((t683.length : Int) - 1))).f1) + 2)⟩ : S59)]), t690, t691)) else (none)) else (none)) else (none)) else (none)) else (if t689 = 5 then (if 0 < (t683.length : Int) then (if 0 ≤ (wrap64 ((t683.length : Int) - 1)) then (if (wrap64 ((t683.length : Int) - 1)) < (t683.length : Int) then (if t683.length < 8796093022208 then (some ((t683 ++ [(⟨wrap64 (((rd_T59 t683 0).f0) + 3), wrap64 (((rd_T59 t683 (wrap64 ((t683.length : Int) - 1))).f1) + 2)⟩ : S59)]), t690, t691)) else (none)) else (none)) else (none)) else (none)) else (some (t683, t690, t691)))))))) = some (r1, r2, r3) := H
 have A7 := aM A70
 clear A70
 by_cases c8 : t689 = 0
 ·rw [if_pos c8] at H
  have c8b0 : (t689 == 0) = true := beq_iff_eq.mpr c8
  have c8b1 : (t689 != 0) = false := bne_eq_false_iff_eq.mpr c8
  clear c8
  obtain ⟨y692, hy692⟩ : ∃ y_ : List Int, y_ = (([(-100), 100, 101] : List Int)) := ⟨_, rfl⟩
  replace H : ((spec_l01Next.f s0_0 t690 t691 3).bind fun bt695 => (if 0 ≤ bt695.1 then (if bt695.1 < (y692.length : Int) then (if 0 ≤ t686 then (if t686 < (t683.length : Int) then ((spec_l02Sort.f k (t683.set (t686 : Int).toNat (⟨rd y692 bt695.1, (rd_T59 t683 t686).f1⟩ : S59))).bind fun t700 => (some (t700, bt695.2.1, bt695.2.2))) else (none)) else (none)) else (none)) else (none))) = some (r1, r2, r3) := zy H hy692
  have Ny692 := aM hy692
  clear hy692
  replace H := Option.bind_eq_some_iff.mp H
  obtain ⟨⟨t695, t696, t697⟩, A90, H⟩ := H
  replace H : (if 0 ≤ t695 then (if t695 < (y692.length : Int) then (if 0 ≤ t686 then (if t686 < (t683.length : Int) then ((spec_l02Sort.f k (t683.set (t686 : Int).toNat (⟨rd y692 t695, (rd_T59 t683 t686).f1⟩ : S59))).bind fun t700 => (some (t700, t696, t697))) else (none)) else (none)) else (none)) else (none)) = some (r1, r2, r3) := H
  have A9 := aM A90
  clear A90
  by_cases c10 : 0 ≤ t695
  rotate_left
  ·rw [if_neg c10] at H
   exact absurd H (by simp)
  rw [if_pos c10] at H
  have c10b0 : decide (0 ≤ t695) = true := decide_eq_true c10
  clear c10
  by_cases c11 : t695 < (y692.length : Int)
  rotate_left
  ·rw [if_neg c11] at H
   exact absurd H (by simp)
  rw [if_pos c11] at H
  have c11b0 : decide (t695 < (y692.length : Int)) = true := decide_eq_true c11
  clear c11
  by_cases c12 : 0 ≤ t686
  rotate_left
  ·rw [if_neg c12] at H
   exact absurd H (by simp)
  rw [if_pos c12] at H
  have c12b0 : decide (0 ≤ t686) = true := decide_eq_true c12
  clear c12
  by_cases c13 : t686 < (t683.length : Int)
  rotate_left
  ·rw [if_neg c13] at H
   exact absurd H (by simp)
  rw [if_pos c13] at H
  have c13b0 : decide (t686 < (t683.length : Int)) = true := decide_eq_true c13
  clear c13
  obtain ⟨y699, hy699⟩ : ∃ y_ : List (S59), y_ = (t683.set (t686 : Int).toNat (⟨rd y692 t695, (rd_T59 t683 t686).f1⟩ : S59)) := ⟨_, rfl⟩
  replace H : ((spec_l02Sort.f k y699).bind fun t700 => (some (t700, t696, t697))) = some (r1, r2, r3) := zy H hy699
  have Ny699 := aM hy699
  clear hy699
  replace H := Option.bind_eq_some_iff.mp H
  obtain ⟨t700, A150, H⟩ := H
  replace H : (some (t700, t696, t697)) = some (r1, r2, r3) := H
  have A15 := aM A150
  clear A150
  simp only [Option.some.injEq, Prod.mk.injEq] at H
  obtain ⟨rfl, rfl, rfl⟩ := H
  go_enter Try.func119, Try.ntmps119
  go_wp2_with (first | ((with_reducible refine gate_callee (f := 149) rfl ?_); refine goesL_ (some 8) rfl rfl Try.func149 (by kernel_rfl) rfl #[.pointer (some ⟨g, 0, none⟩), .int .i64 8] rfl zm ?_; (with_reducible refine (spec_l02DrawPoly.calls k g s0_0 s0_1 s0_2 8 t672 t675 t676 w0 _ ?side1 ?side2 A2.out).mono ?_); (case side1 => repeat (first | (with_reducible first | exact HI0.out | apply IsS132.alloc | apply IsS132.drewN | apply IsS132.drew | apply IsS132.set_1 | apply IsS132.set_2) | exact HI0.out)); (case side2 => repeat (first | (with_reducible first | exact HB.out | apply below_alloc | apply pw_below_drewN | apply below_drew1 | refine below_set ?_ (IsS132.ge HI0.out)) | exact HB.out)); rintro e w16 ⟨v673, rfl, ho0, hi, hb, hk⟩; refine ⟨_, rfl, ?_⟩; have n0_ := aM (Kd.R_lower ho0 (keep_size (w := w) (g := g) (row := none) (by repeat (first | (with_reducible first | exact HK.out | apply KeepBut.set_ | apply keep_drewN | apply keep_drew | apply keep_alloc) | exact HK.out)))); have n1_ := aM (KeepBut.trans (by repeat (first | (with_reducible first | exact HK.out | apply KeepBut.set_ | apply keep_drewN | apply keep_drew | apply keep_alloc) | exact HK.out)) hk (.inl rfl)); have n2_ := aM (hb); have n3_ := aM (hi); clear HK; clear HB; clear HI0; have HO674 := n0_; have HK := n1_; have HB := n2_; have HI0 := n3_; clear n0_ n1_ n2_ n3_; (try clear hb); (try clear hb2); (try clear hk); (try clear hi); (try clear ho0)) | ((with_reducible refine gate_callee (f := 118) rfl ?_); refine goesL_ (some 10) rfl rfl Try.func118 (by kernel_rfl) rfl #[.pointer (some ⟨g, 0, none⟩), .int .i64 9] rfl zm ?_; (with_reducible refine (spec_l01Next.calls g s0_0 t675 t676 9 t677 t678 t679 w0 _ ?side1 ?side2 A3.out).mono ?_); (case side1 => repeat (first | (with_reducible first | exact HI0.out | apply IsS132.alloc | apply IsS132.drewN | apply IsS132.drew | apply IsS132.set_1 | apply IsS132.set_2) | exact HI0.out)); (case side2 => repeat (first | (with_reducible first | exact HB.out | apply below_alloc | apply pw_below_drewN | apply below_drew1 | refine below_set ?_ (IsS132.ge HI0.out)) | exact HB.out)); rintro e w17 ⟨rfl, hi, hb, hk⟩; refine ⟨_, rfl, ?_⟩; have n0_ := aM (Kd.R_mono (Kd.R_keep (IsS132.apart (show IsS132 w0 _ g s0_0 t675 t676 from by repeat (first | (with_reducible first | exact HI0.out | apply IsS132.alloc | apply IsS132.drewN | apply IsS132.drew | apply IsS132.set_1 | apply IsS132.set_2) | exact HI0.out)) (mR_ HO674.out) (by decide)) hk (fun _ h => h.2)) (fun _ h => h.1)); have n1_ := aM (KeepBut.trans (by repeat (first | (with_reducible first | exact HK.out | apply KeepBut.set_ | apply keep_drewN | apply keep_drew | apply keep_alloc) | exact HK.out)) hk (.inl rfl)); have n2_ := aM (hb); have n3_ := aM (hi); clear HO674; clear HK; clear HB; clear HI0; have HO674 := n0_; have HK := n1_; have HB := n2_; have HI0 := n3_; clear n0_ n1_ n2_ n3_; (try clear hb); (try clear hb2); (try clear hk); (try clear hi)) | ((with_reducible refine gate_callee (f := 118) rfl ?_); refine goesL_ (some 13) rfl rfl Try.func118 (by kernel_rfl) rfl #[.pointer (some ⟨g, 0, none⟩), .int .i64 9] rfl zm ?_; (with_reducible refine (spec_l01Next.calls g s0_0 t678 t679 9 t680 t681 t682 w0 _ ?side1 ?side2 A4.out).mono ?_); (case side1 => repeat (first | (with_reducible first | exact HI0.out | apply IsS132.alloc | apply IsS132.drewN | apply IsS132.drew | apply IsS132.set_1 | apply IsS132.set_2) | exact HI0.out)); (case side2 => repeat (first | (with_reducible first | exact HB.out | apply below_alloc | apply pw_below_drewN | apply below_drew1 | refine below_set ?_ (IsS132.ge HI0.out)) | exact HB.out)); rintro e w18 ⟨rfl, hi, hb, hk⟩; refine ⟨_, rfl, ?_⟩; have n0_ := aM (Kd.R_mono (Kd.R_keep (IsS132.apart (show IsS132 w0 _ g s0_0 t678 t679 from by repeat (first | (with_reducible first | exact HI0.out | apply IsS132.alloc | apply IsS132.drewN | apply IsS132.drew | apply IsS132.set_1 | apply IsS132.set_2) | exact HI0.out)) (mR_ HO674.out) (by decide)) hk (fun _ h => h.2)) (fun _ h => h.1)); have n1_ := aM (KeepBut.trans (by repeat (first | (with_reducible first | exact HK.out | apply KeepBut.set_ | apply keep_drewN | apply keep_drew | apply keep_alloc) | exact HK.out)) hk (.inl rfl)); have n2_ := aM (hb); have n3_ := aM (hi); clear HO674; clear HK; clear HB; clear HI0; have HO674 := n0_; have HK := n1_; have HB := n2_; have HI0 := n3_; clear n0_ n1_ n2_ n3_; (try clear hb); (try clear hb2); (try clear hk); (try clear hi); obtain ⟨Ao19, co19, eo19⟩ := Kd.R_slice HO674.out; subst eo19) | ((with_reducible refine gate_callee (f := 152) rfl ?_); refine goesL_ (some 15) rfl rfl Try.func152 (by kernel_rfl) rfl #[.slice Ao19 t672.length co19, .int .i64 (wrap64 (t677 - 4)), .int .i64 (wrap64 (t680 - 4))] rfl zm ?_; (with_reducible refine (spec_l02Move.calls k _ _ t672 (wrap64 (t677 - 4)) (wrap64 (t680 - 4)) t683 _ ?side1 ?side2 A5.out).mono ?_); (case side1 => repeat (first | exact (Kd.R_reads' HO674.out).2.2 | (with_reducible refine Kd.C_alloc ?_ _) | (with_reducible refine Kd.C_drewN ?_ _) | (with_reducible refine Kd.C_drew ?_))); (case side2 => exact (Kd.R_reads' HO674.out).2.1); rintro e w20 ⟨v684, rfl, ho0, hb⟩; refine ⟨_, rfl, ?_⟩; have n0_ := aM (Kd.R_elder' (mR_ HO674.out) (Kd.R_base ho0) hb); have n1_ := aM (Kd.R_lower (Kd.R_new' ho0 (Kd.R_lt (mR_ HO674.out))) (keep_size (w := w) (g := g) (row := none) (by repeat (first | (with_reducible first | exact HK.out | apply KeepBut.set_ | apply keep_drewN | apply keep_drew | apply keep_alloc) | exact HK.out)))); have n2_ := aM (IsS132.below (by repeat (first | (with_reducible first | exact HI0.out | apply IsS132.alloc | apply IsS132.drewN | apply IsS132.drew | apply IsS132.set_1 | apply IsS132.set_2) | exact HI0.out)) hb); have n3_ := aM (KeepBut.trans (by repeat (first | (with_reducible first | exact HK.out | apply KeepBut.set_ | apply keep_drewN | apply keep_drew | apply keep_alloc) | exact HK.out)) (KeepBut.of_below hb g none) (.inl rfl)); have n4_ := aM (below_step (by repeat (first | (with_reducible first | exact HB.out | apply below_alloc | apply pw_below_drewN | apply below_drew1 | refine below_set ?_ (IsS132.ge HI0.out)) | exact HB.out)) hb); clear HO674; clear HI0; clear HK; clear HB; have HO674 := n0_; have HO685 := n1_; have HI0 := n2_; have HK := n3_; have HB := n4_; clear n0_ n1_ n2_ n3_ n4_; (try clear hb); (try clear hb2); (try clear hk); (try clear hi); (try clear ho0); obtain ⟨Ao21, co21, eo21⟩ := Kd.R_slice HO685.out; subst eo21) | ((with_reducible refine gate_callee (f := 118) rfl ?_); refine goesL_ (some 19) rfl rfl Try.func118 (by kernel_rfl) rfl #[.pointer (some ⟨g, 0, none⟩), .int .i64 (t683.length : Int)] rfl zm ?_; (with_reducible refine (spec_l01Next.calls g s0_0 t681 t682 (t683.length : Int) t686 t687 t688 w0 _ ?side1 ?side2 A6.out).mono ?_); (case side1 => repeat (first | (with_reducible first | exact HI0.out | apply IsS132.alloc | apply IsS132.drewN | apply IsS132.drew | apply IsS132.set_1 | apply IsS132.set_2) | exact HI0.out)); (case side2 => repeat (first | (with_reducible first | exact HB.out | apply below_alloc | apply pw_below_drewN | apply below_drew1 | refine below_set ?_ (IsS132.ge HI0.out)) | exact HB.out)); rintro e w22 ⟨rfl, hi, hb, hk⟩; refine ⟨_, rfl, ?_⟩; have n0_ := aM (Kd.R_mono (Kd.R_keep (IsS132.apart (show IsS132 w0 _ g s0_0 t681 t682 from by repeat (first | (with_reducible first | exact HI0.out | apply IsS132.alloc | apply IsS132.drewN | apply IsS132.drew | apply IsS132.set_1 | apply IsS132.set_2) | exact HI0.out)) (mR_ HO674.out) (by decide)) hk (fun _ h => h.2)) (fun _ h => h.1)); have n1_ := aM (Kd.R_mono (Kd.R_keep (IsS132.apart (show IsS132 w0 _ g s0_0 t681 t682 from by repeat (first | (with_reducible first | exact HI0.out | apply IsS132.alloc | apply IsS132.drewN | apply IsS132.drew | apply IsS132.set_1 | apply IsS132.set_2) | exact HI0.out)) (mR_ HO685.out) (by decide)) hk (fun _ h => h.2)) (fun _ h => h.1)); have n2_ := aM (KeepBut.trans (by repeat (first | (with_reducible first | exact HK.out | apply KeepBut.set_ | apply keep_drewN | apply keep_drew | apply keep_alloc) | exact HK.out)) hk (.inl rfl)); have n3_ := aM (hb); have n4_ := aM (hi); clear HO674; clear HO685; clear HK; clear HB; clear HI0; have HO674 := n0_; have HO685 := n1_; have HK := n2_; have HB := n3_; have HI0 := n4_; clear n0_ n1_ n2_ n3_ n4_; (try clear hb); (try clear hb2); (try clear hk); (try clear hi)) | ((with_reducible refine gate_callee (f := 118) rfl ?_); refine goesL_ (some 21) rfl rfl Try.func118 (by kernel_rfl) rfl #[.pointer (some ⟨g, 0, none⟩), .int .i64 24] rfl zm ?_; (with_reducible refine (spec_l01Next.calls g s0_0 t687 t688 24 t689 t690 t691 w0 _ ?side1 ?side2 A7.out).mono ?_); (case side1 => repeat (first | (with_reducible first | exact HI0.out | apply IsS132.alloc | apply IsS132.drewN | apply IsS132.drew | apply IsS132.set_1 | apply IsS132.set_2) | exact HI0.out)); (case side2 => repeat (first | (with_reducible first | exact HB.out | apply below_alloc | apply pw_below_drewN | apply below_drew1 | refine below_set ?_ (IsS132.ge HI0.out)) | exact HB.out)); rintro e w23 ⟨rfl, hi, hb, hk⟩; refine ⟨_, rfl, ?_⟩; have n0_ := aM (Kd.R_mono (Kd.R_keep (IsS132.apart (show IsS132 w0 _ g s0_0 t687 t688 from by repeat (first | (with_reducible first | exact HI0.out | apply IsS132.alloc | apply IsS132.drewN | apply IsS132.drew | apply IsS132.set_1 | apply IsS132.set_2) | exact HI0.out)) (mR_ HO674.out) (by decide)) hk (fun _ h => h.2)) (fun _ h => h.1)); have n1_ := aM (Kd.R_mono (Kd.R_keep (IsS132.apart (show IsS132 w0 _ g s0_0 t687 t688 from by repeat (first | (with_reducible first | exact HI0.out | apply IsS132.alloc | apply IsS132.drewN | apply IsS132.drew | apply IsS132.set_1 | apply IsS132.set_2) | exact HI0.out)) (mR_ HO685.out) (by decide)) hk (fun _ h => h.2)) (fun _ h => h.1)); have n2_ := aM (KeepBut.trans (by repeat (first | (with_reducible first | exact HK.out | apply KeepBut.set_ | apply keep_drewN | apply keep_drew | apply keep_alloc) | exact HK.out)) hk (.inl rfl)); have n3_ := aM (hb); have n4_ := aM (hi); clear HO674; clear HO685; clear HK; clear HB; clear HI0; have HO674 := n0_; have HO685 := n1_; have HK := n2_; have HB := n3_; have HI0 := n4_; clear n0_ n1_ n2_ n3_ n4_; (try clear hb); (try clear hb2); (try clear hk); (try clear hi)) | ((with_reducible refine gate_dst (N := 26) rfl ?_); refine Kd.R_lit (Kd.int .i64) _ 2 ?hg (N := 26) ?hd (xs := ([(-100), 100, 101] : List Int)) (inner := [.int .i64 (-100), .int .i64 100, .int .i64 101]) (ok := fun _ => True) (okp := fun _ => True) ?hr ?hp (fun _ hk => hk) trivial (Below.refl _ _) (Nat.le_refl _) (by simp) ?_; (case hd => rfl); (case hg => rfl); (case hr => first | (go_simp; done) | (go_simp; rfl)); (case hp => exact (Reps.one (show Kd.M (Kd.int .i64) _ _ _ (-100) [.int .i64 (-100)] from rfl) (Reps.one (show Kd.M (Kd.int .i64) _ _ _ 100 [.int .i64 100] from rfl) (Reps.one (show Kd.M (Kd.int .i64) _ _ _ 101 [.int .i64 101] from rfl) (Reps.none _ _))))); intro v693 w24 ho25 hb hg_ hnew_; clear hg_ hnew_; (first | rw [← Ny692.out] at ho25 | (simp only [Int.reduceToNat] at ho25; rw [← Ny692.out] at ho25)); have n0_ := aM (Kd.R_below (mR_ HO674.out) hb); have n1_ := aM (Kd.R_below (mR_ HO685.out) hb); have n2_ := aM (Kd.R_lower ho25 (keep_size (w := w) (g := g) (row := none) (by repeat (first | (with_reducible first | exact HK.out | apply KeepBut.set_ | apply keep_drewN | apply keep_drew | apply keep_alloc) | exact HK.out)))); have n3_ := aM (IsS132.below (by repeat (first | (with_reducible first | exact HI0.out | apply IsS132.alloc | apply IsS132.drewN | apply IsS132.drew | apply IsS132.set_1 | apply IsS132.set_2) | exact HI0.out)) hb); have n4_ := aM (KeepBut.trans (by repeat (first | (with_reducible first | exact HK.out | apply KeepBut.set_ | apply keep_drewN | apply keep_drew | apply keep_alloc) | exact HK.out)) (KeepBut.of_below hb g none) (.inl rfl)); have n5_ := aM (below_step (by repeat (first | (with_reducible first | exact HB.out | apply below_alloc | apply pw_below_drewN | apply below_drew1 | refine below_set ?_ (IsS132.ge HI0.out)) | exact HB.out)) hb); clear HO674; clear HO685; clear HI0; clear HK; clear HB; have HO674 := n0_; have HO685 := n1_; have HO694 := n2_; have HI0 := n3_; have HK := n4_; have HB := n5_; clear n0_ n1_ n2_ n3_ n4_ n5_; clear hb ho25) | ((with_reducible refine gate_callee (f := 118) rfl ?_); refine goesL_ (some 28) rfl rfl Try.func118 (by kernel_rfl) rfl #[.pointer (some ⟨g, 0, none⟩), .int .i64 3] rfl zm ?_; (with_reducible refine (spec_l01Next.calls g s0_0 t690 t691 3 t695 t696 t697 w0 _ ?side1 ?side2 A9.out).mono ?_); (case side1 => repeat (first | (with_reducible first | exact HI0.out | apply IsS132.alloc | apply IsS132.drewN | apply IsS132.drew | apply IsS132.set_1 | apply IsS132.set_2) | exact HI0.out)); (case side2 => repeat (first | (with_reducible first | exact HB.out | apply below_alloc | apply pw_below_drewN | apply below_drew1 | refine below_set ?_ (IsS132.ge HI0.out)) | exact HB.out)); rintro e w26 ⟨rfl, hi, hb, hk⟩; refine ⟨_, rfl, ?_⟩; have n0_ := aM (Kd.R_mono (Kd.R_keep (IsS132.apart (show IsS132 w0 _ g s0_0 t690 t691 from by repeat (first | (with_reducible first | exact HI0.out | apply IsS132.alloc | apply IsS132.drewN | apply IsS132.drew | apply IsS132.set_1 | apply IsS132.set_2) | exact HI0.out)) (mR_ HO674.out) (by decide)) hk (fun _ h => h.2)) (fun _ h => h.1)); have n1_ := aM (Kd.R_mono (Kd.R_keep (IsS132.apart (show IsS132 w0 _ g s0_0 t690 t691 from by repeat (first | (with_reducible first | exact HI0.out | apply IsS132.alloc | apply IsS132.drewN | apply IsS132.drew | apply IsS132.set_1 | apply IsS132.set_2) | exact HI0.out)) (mR_ HO685.out) (by decide)) hk (fun _ h => h.2)) (fun _ h => h.1)); have n2_ := aM (Kd.R_mono (Kd.R_keep (IsS132.apart (show IsS132 w0 _ g s0_0 t690 t691 from by repeat (first | (with_reducible first | exact HI0.out | apply IsS132.alloc | apply IsS132.drewN | apply IsS132.drew | apply IsS132.set_1 | apply IsS132.set_2) | exact HI0.out)) (mR_ HO694.out) (by decide)) hk (fun _ h => h.2)) (fun _ h => h.1)); have n3_ := aM (KeepBut.trans (by repeat (first | (with_reducible first | exact HK.out | apply KeepBut.set_ | apply keep_drewN | apply keep_drew | apply keep_alloc) | exact HK.out)) hk (.inl rfl)); have n4_ := aM (hb); have n5_ := aM (hi); clear HO674; clear HO685; clear HO694; clear HK; clear HB; clear HI0; have HO674 := n0_; have HO685 := n1_; have HO694 := n2_; have HK := n3_; have HB := n4_; have HI0 := n5_; clear n0_ n1_ n2_ n3_ n4_ n5_; (try clear hb); (try clear hb2); (try clear hk); (try clear hi); obtain ⟨Ao27, co27, eo27⟩ := Kd.R_slice HO694.out; subst eo27; have p698 : 0 ≤ (t695 : Int) := of_decide_eq_true za; have q698 : t695 < (y692.length : Int) := of_decide_eq_true za; obtain ⟨ad698, e698, hx698_0⟩ := Kd.at_int (Kd.R_reads' HO694.out).2.2 t695 p698 q698; cases e698; replace p698 := eq_true p698; replace q698 := eq_true q698; have p14 : 0 ≤ (t686 : Int) := of_decide_eq_true za; have q14 : (t686 : Int) < ((t683.length : Int) : Int) := of_decide_eq_true za; obtain ⟨go14, co14, eo14, gb14, gl14, cl14, HG14⟩ := Kd.R_form HO685.out (by omega); (first | cases eo14 | (injection eo14 with ea_ en_ ec_; (first | subst ea_ | (injection ea_ with ea_; subst ea_)); subst ec_; clear en_)); have GB14 := aM gb14; have GG14 := aM HG14; clear gb14 gl14 HG14; obtain ⟨ce14, hcl14, hM14, hcc14, hfr14⟩ := Kd.R_elem HO685.out z59 (t686 : Int) p14 q14; obtain rfl := k59_openM hM14; have hx14_0 : w26.cell? ⟨go14, (t686 : Int).toNat * 2, none⟩ = some (.int .i64 ((rd_T59 t683 t686).f0)) := hcc14 0 _ rfl; have hx14_1 : w26.cell? ⟨go14, (t686 : Int).toNat * 2 + 1, none⟩ = some (.int .i64 ((rd_T59 t683 t686).f1)) := hcc14 1 _ rfl; have hf14_0 : w26.frozen? ⟨go14, (t686 : Int).toNat * 2, none⟩ = false := hfr14 0; have hf14_1 : w26.frozen? ⟨go14, (t686 : Int).toNat * 2 + 1, none⟩ = false := hfr14 1; clear hcl14 hcc14 hfr14 hM14; replace p14 := eq_true p14; replace q14 := eq_true q14; have n_ := aM (Kd.R_mono (ok' := (fun k_ => some k_ ≠ (.slice Ao19 t672.length co19 : Value).ownBlock)) HO685.out (fun k_ hk => hk.2)); clear HO685; have HO685 := n_; clear n_; have HX28 := aM (show Kd.R k59 59 w26 w.heap.size (fun k_ => some k_ ≠ (.slice Ao19 t672.length co19 : Value).ownBlock) (.slice (some ⟨go14, 0, none⟩) t683.length co21) t683 from (mR_ HO685.out)); obtain ⟨ce28, hcl28, hM28, hcc28, hfr28⟩ := Kd.R_elem HX28.out z59 (t686 : Int) (of_decide_eq_true za) (by have h_ : (t686 : Int) < ((t683.length : Int) : Int) := of_decide_eq_true za; first | exact h_ | (have e_ := (Kd.R_reads' HO685.out).1; omega) | simpa using h_); obtain rfl := k59_openM hM28; have HP28 := Kd.R_seg HX28.out (t686 : Int) (of_decide_eq_true za) (by have h_ : (t686 : Int) < ((t683.length : Int) : Int) := of_decide_eq_true za; first | exact h_ | (have e_ := (Kd.R_reads' HO685.out).1; omega) | simpa using h_) (seg := [.int .i64 (rd y692 t695)]) (j := 0) hcl28 hcc28 (show 1 ≤ 2 from by decide) (x' := (⟨rd y692 t695, (rd_T59 t683 t686).f1⟩ : S59)) (k59_mkM _ _ _ (⟨rd y692 t695, (rd_T59 t683 t686).f1⟩ : S59) ) (fun _ hk => hk); have hx28_0 := hcc28 0 _ rfl; (try simp only [show (k59).sz = 2 from rfl, Nat.mul_one, Nat.add_zero] at hx28_0); have hf28_0 := hfr28 0; (try simp only [show (k59).sz = 2 from rfl, Nat.mul_one, Nat.add_zero] at hf28_0); clear hcl28 hcc28 hfr28 hM28) | ((with_reducible refine gate_store (t := 2) (p := 32) rfl ?_); refine store_event (t := 2) (p := 32) (v := ?vo_w29) (w1 := (w26.setCell ⟨go14, (t686 : Int).toNat * 2, none⟩ (.int .i64 (rd y692 t695)))) ?hg ?ho ?hn ?hr ?_; (case ho => rfl); (case hg => rfl); (case hn => rfl); (case hr => first | (go_simp; done) | (go_simp; rfl)); intro w29 hw; have hg : w26.grownBy w29 (some go14) := (by rw [hw]; exact HP28.2); have hp_ : Kd.R k59 59 w29 w.heap.size (fun k_ => some k_ ≠ (.slice Ao19 t672.length co19 : Value).ownBlock) (.slice (some ⟨go14, 0, none⟩) t683.length co21) y699 := (by rw [hw, Ny699.out]; exact HP28.1); clear HP28; have n0_ := aM (IsS132.grown (by repeat (first | (with_reducible first | exact HI0.out | apply IsS132.alloc | apply IsS132.drewN | apply IsS132.drew | apply IsS132.set_1 | apply IsS132.set_2) | exact HI0.out)) hg (IsS132.own_ne HI0.out HO685.out (by decide))); have n1_ := aM (Kd.R_after (v := (.slice (some ⟨go14, 0, none⟩) t683.length co21)) (v1 := (.slice (some ⟨go14, 0, none⟩) t683.length co21)) (ok := (fun _ => True)) (mR_ HO674.out) hg (.inl rfl)); have n2_ := aM (hp_); have n3_ := aM (Kd.R_over' (v := (.slice (some ⟨go14, 0, none⟩) t683.length co21)) (mR_ HO694.out) (Kd.R_typed HO685.out) (by decide) hg); have n4_ := aM ((by rw [hw]; exact below_set (HB.out) (Nat.le_trans HL.out GB14.out) : Below w0.heap.size w0 w29)); have n5_ := aM (KeepBut.trans (by repeat (first | (with_reducible first | exact HK.out | apply KeepBut.set_ | apply keep_drewN | apply keep_drew | apply keep_alloc) | exact HK.out)) (KeepBut.of_grown hg g) (Kd.R_base2 HO685.out)); clear HI0; clear HO674; clear HO685; clear HO694; clear HB; clear HK; have HI0 := n0_; have HO674 := n1_; have HO685 := n2_; have HO694 := n3_; have HB := n4_; have HK := n5_; clear n0_ n1_ n2_ n3_ n4_ n5_; clear hg hw hp_) | ((with_reducible refine gate_callee (f := 153) rfl ?_); refine goesL_ (some 34) rfl rfl Try.func153 (by kernel_rfl) rfl #[.slice (some ⟨go14, 0, none⟩) y699.length co21] rfl (by (try simp only [mA, mB, mC]); first | done | (rw [show y699.length = t683.length from (Kd.R_reads' HO685.out).1.symm] <;> rfl) | rfl | (simp only [lD, lT]; rfl)) ?_; (with_reducible refine (spec_l02Sort.calls k _ _ y699 t700 _ ?side1 ?side2 A15.out).mono ?_); (case side1 => repeat (first | exact (Kd.R_reads' HO685.out).2.2 | (with_reducible refine Kd.C_alloc ?_ _) | (with_reducible refine Kd.C_drewN ?_ _) | (with_reducible refine Kd.C_drew ?_))); (case side2 => rw [show y699.length = t683.length from (Kd.R_reads' HO685.out).1.symm]; exact (Kd.R_reads' HO685.out).2.1); rintro e w30 ⟨v701, rfl, ho0, hb⟩; refine ⟨_, rfl, ?_⟩; have n0_ := aM (Kd.R_elder' (mR_ HO674.out) (Kd.R_base ho0) hb); have n1_ := aM (Kd.R_elder' (mR_ HO685.out) (Kd.R_base ho0) hb); have n2_ := aM (Kd.R_below (mR_ HO694.out) hb); have n3_ := aM (Kd.R_lower (Kd.R_new' (Kd.R_new' ho0 (Kd.R_lt (mR_ HO674.out))) (Kd.R_lt (mR_ HO685.out))) (keep_size (w := w) (g := g) (row := none) (by repeat (first | (with_reducible first | exact HK.out | apply KeepBut.set_ | apply keep_drewN | apply keep_drew | apply keep_alloc) | exact HK.out)))); have n4_ := aM (IsS132.below (by repeat (first | (with_reducible first | exact HI0.out | apply IsS132.alloc | apply IsS132.drewN | apply IsS132.drew | apply IsS132.set_1 | apply IsS132.set_2) | exact HI0.out)) hb); have n5_ := aM (KeepBut.trans (by repeat (first | (with_reducible first | exact HK.out | apply KeepBut.set_ | apply keep_drewN | apply keep_drew | apply keep_alloc) | exact HK.out)) (KeepBut.of_below hb g none) (.inl rfl)); have n6_ := aM (below_step (by repeat (first | (with_reducible first | exact HB.out | apply below_alloc | apply pw_below_drewN | apply below_drew1 | refine below_set ?_ (IsS132.ge HI0.out)) | exact HB.out)) hb); clear HO674; clear HO685; clear HO694; clear HI0; clear HK; clear HB; have HO674 := n0_; have HO685 := n1_; have HO694 := n2_; have HO702 := n3_; have HI0 := n4_; have HK := n5_; have HB := n6_; clear n0_ n1_ n2_ n3_ n4_ n5_ n6_; (try clear hb); (try clear hb2); (try clear hk); (try clear hi); (try clear ho0)))
  go_ret
  exact ⟨_, zw, by (with_reducible repeat (first | apply Kd.R_alloc | apply Kd.R_drewN | apply Kd.R_drew)); exact Kd.R_mono HO702.out (fun _ hk => trivial), by repeat (first | (with_reducible first | exact HI0.out | apply IsS132.alloc | apply IsS132.drewN | apply IsS132.drew | apply IsS132.set_1 | apply IsS132.set_2) | exact HI0.out), by repeat (first | (with_reducible first | exact HB.out | apply below_alloc | apply pw_below_drewN | apply below_drew1 | refine below_set ?_ (IsS132.ge HI0.out)) | exact HB.out), by repeat (first | (with_reducible first | exact HK.out | apply KeepBut.set_ | apply keep_drewN | apply keep_drew | apply keep_alloc) | exact HK.out)⟩
 rw [if_neg c8] at H
 have c8b0 : (t689 == 0) = false := beq_eq_false_iff_ne.mpr c8
 have c8b1 : (t689 != 0) = true := bne_iff_ne.mpr c8
 by_cases c31 : t689 = 1
 ·rw [if_pos c31] at H
  have c31b0 : (t689 == 1) = true := beq_iff_eq.mpr c31
  have c31b1 : (t689 != 1) = false := bne_eq_false_iff_eq.mpr c31
  clear c31
  by_cases c32 : 0 ≤ t686
  rotate_left
  ·rw [if_neg c32] at H
   exact absurd H (by simp)
  rw [if_pos c32] at H
  have c32b0 : decide (0 ≤ t686) = true := decide_eq_true c32
  clear c32
  by_cases c33 : t686 < (t683.length : Int)
  rotate_left
  ·rw [if_neg c33] at H
   exact absurd H (by simp)
  rw [if_pos c33] at H
  have c33b0 : decide (t686 < (t683.length : Int)) = true := decide_eq_true c33
  clear c33
  by_cases c34 : t683.length < 8796093022208
  rotate_left
  ·rw [if_neg c34] at H
   exact absurd H (by simp)
  rw [if_pos c34] at H
  have LMc34 := aM c34
  clear c34
  obtain ⟨y704, hy704⟩ : ∃ y_ : List (S59), y_ = (t683 ++ [(⟨(rd_T59 t683 t686).f0, (rd_T59 t683 t686).f1⟩ : S59)]) := ⟨_, rfl⟩
  replace H : (some (y704, t690, t691)) = some (r1, r2, r3) := zy H hy704
  have Ny704 := aM hy704
  clear hy704
  simp only [Option.some.injEq, Prod.mk.injEq] at H
  obtain ⟨rfl, rfl, rfl⟩ := H
  go_enter Try.func119, Try.ntmps119
  go_wp2_with (first | ((with_reducible refine gate_callee (f := 149) rfl ?_); refine goesL_ (some 8) rfl rfl Try.func149 (by kernel_rfl) rfl #[.pointer (some ⟨g, 0, none⟩), .int .i64 8] rfl zm ?_; (with_reducible refine (spec_l02DrawPoly.calls k g s0_0 s0_1 s0_2 8 t672 t675 t676 w0 _ ?side1 ?side2 A2.out).mono ?_); (case side1 => repeat (first | (with_reducible first | exact HI0.out | apply IsS132.alloc | apply IsS132.drewN | apply IsS132.drew | apply IsS132.set_1 | apply IsS132.set_2) | exact HI0.out)); (case side2 => repeat (first | (with_reducible first | exact HB.out | apply below_alloc | apply pw_below_drewN | apply below_drew1 | refine below_set ?_ (IsS132.ge HI0.out)) | exact HB.out)); rintro e w35 ⟨v673, rfl, ho0, hi, hb, hk⟩; refine ⟨_, rfl, ?_⟩; have n0_ := aM (Kd.R_lower ho0 (keep_size (w := w) (g := g) (row := none) (by repeat (first | (with_reducible first | exact HK.out | apply KeepBut.set_ | apply keep_drewN | apply keep_drew | apply keep_alloc) | exact HK.out)))); have n1_ := aM (KeepBut.trans (by repeat (first | (with_reducible first | exact HK.out | apply KeepBut.set_ | apply keep_drewN | apply keep_drew | apply keep_alloc) | exact HK.out)) hk (.inl rfl)); have n2_ := aM (hb); have n3_ := aM (hi); clear HK; clear HB; clear HI0; have HO674 := n0_; have HK := n1_; have HB := n2_; have HI0 := n3_; clear n0_ n1_ n2_ n3_; (try clear hb); (try clear hb2); (try clear hk); (try clear hi); (try clear ho0)) | ((with_reducible refine gate_callee (f := 118) rfl ?_); refine goesL_ (some 10) rfl rfl Try.func118 (by kernel_rfl) rfl #[.pointer (some ⟨g, 0, none⟩), .int .i64 9] rfl zm ?_; (with_reducible refine (spec_l01Next.calls g s0_0 t675 t676 9 t677 t678 t679 w0 _ ?side1 ?side2 A3.out).mono ?_); (case side1 => repeat (first | (with_reducible first | exact HI0.out | apply IsS132.alloc | apply IsS132.drewN | apply IsS132.drew | apply IsS132.set_1 | apply IsS132.set_2) | exact HI0.out)); (case side2 => repeat (first | (with_reducible first | exact HB.out | apply below_alloc | apply pw_below_drewN | apply below_drew1 | refine below_set ?_ (IsS132.ge HI0.out)) | exact HB.out)); rintro e w36 ⟨rfl, hi, hb, hk⟩; refine ⟨_, rfl, ?_⟩; have n0_ := aM (Kd.R_mono (Kd.R_keep (IsS132.apart (show IsS132 w0 _ g s0_0 t675 t676 from by repeat (first | (with_reducible first | exact HI0.out | apply IsS132.alloc | apply IsS132.drewN | apply IsS132.drew | apply IsS132.set_1 | apply IsS132.set_2) | exact HI0.out)) (mR_ HO674.out) (by decide)) hk (fun _ h => h.2)) (fun _ h => h.1)); have n1_ := aM (KeepBut.trans (by repeat (first | (with_reducible first | exact HK.out | apply KeepBut.set_ | apply keep_drewN | apply keep_drew | apply keep_alloc) | exact HK.out)) hk (.inl rfl)); have n2_ := aM (hb); have n3_ := aM (hi); clear HO674; clear HK; clear HB; clear HI0; have HO674 := n0_; have HK := n1_; have HB := n2_; have HI0 := n3_; clear n0_ n1_ n2_ n3_; (try clear hb); (try clear hb2); (try clear hk); (try clear hi)) | ((with_reducible refine gate_callee (f := 118) rfl ?_); refine goesL_ (some 13) rfl rfl Try.func118 (by kernel_rfl) rfl #[.pointer (some ⟨g, 0, none⟩), .int .i64 9] rfl zm ?_; (with_reducible refine (spec_l01Next.calls g s0_0 t678 t679 9 t680 t681 t682 w0 _ ?side1 ?side2 A4.out).mono ?_); (case side1 => repeat (first | (with_reducible first | exact HI0.out | apply IsS132.alloc | apply IsS132.drewN | apply IsS132.drew | apply IsS132.set_1 | apply IsS132.set_2) | exact HI0.out)); (case side2 => repeat (first | (with_reducible first | exact HB.out | apply below_alloc | apply pw_below_drewN | apply below_drew1 | refine below_set ?_ (IsS132.ge HI0.out)) | exact HB.out)); rintro e w37 ⟨rfl, hi, hb, hk⟩; refine ⟨_, rfl, ?_⟩; have n0_ := aM (Kd.R_mono (Kd.R_keep (IsS132.apart (show IsS132 w0 _ g s0_0 t678 t679 from by repeat (first | (with_reducible first | exact HI0.out | apply IsS132.alloc | apply IsS132.drewN | apply IsS132.drew | apply IsS132.set_1 | apply IsS132.set_2) | exact HI0.out)) (mR_ HO674.out) (by decide)) hk (fun _ h => h.2)) (fun _ h => h.1)); have n1_ := aM (KeepBut.trans (by repeat (first | (with_reducible first | exact HK.out | apply KeepBut.set_ | apply keep_drewN | apply keep_drew | apply keep_alloc) | exact HK.out)) hk (.inl rfl)); have n2_ := aM (hb); have n3_ := aM (hi); clear HO674; clear HK; clear HB; clear HI0; have HO674 := n0_; have HK := n1_; have HB := n2_; have HI0 := n3_; clear n0_ n1_ n2_ n3_; (try clear hb); (try clear hb2); (try clear hk); (try clear hi); obtain ⟨Ao38, co38, eo38⟩ := Kd.R_slice HO674.out; subst eo38) | ((with_reducible refine gate_callee (f := 152) rfl ?_); refine goesL_ (some 15) rfl rfl Try.func152 (by kernel_rfl) rfl #[.slice Ao38 t672.length co38, .int .i64 (wrap64 (t677 - 4)), .int .i64 (wrap64 (t680 - 4))] rfl zm ?_; (with_reducible refine (spec_l02Move.calls k _ _ t672 (wrap64 (t677 - 4)) (wrap64 (t680 - 4)) t683 _ ?side1 ?side2 A5.out).mono ?_); (case side1 => repeat (first | exact (Kd.R_reads' HO674.out).2.2 | (with_reducible refine Kd.C_alloc ?_ _) | (with_reducible refine Kd.C_drewN ?_ _) | (with_reducible refine Kd.C_drew ?_))); (case side2 => exact (Kd.R_reads' HO674.out).2.1); rintro e w39 ⟨v684, rfl, ho0, hb⟩; refine ⟨_, rfl, ?_⟩; have n0_ := aM (Kd.R_elder' (mR_ HO674.out) (Kd.R_base ho0) hb); have n1_ := aM (Kd.R_lower (Kd.R_new' ho0 (Kd.R_lt (mR_ HO674.out))) (keep_size (w := w) (g := g) (row := none) (by repeat (first | (with_reducible first | exact HK.out | apply KeepBut.set_ | apply keep_drewN | apply keep_drew | apply keep_alloc) | exact HK.out)))); have n2_ := aM (IsS132.below (by repeat (first | (with_reducible first | exact HI0.out | apply IsS132.alloc | apply IsS132.drewN | apply IsS132.drew | apply IsS132.set_1 | apply IsS132.set_2) | exact HI0.out)) hb); have n3_ := aM (KeepBut.trans (by repeat (first | (with_reducible first | exact HK.out | apply KeepBut.set_ | apply keep_drewN | apply keep_drew | apply keep_alloc) | exact HK.out)) (KeepBut.of_below hb g none) (.inl rfl)); have n4_ := aM (below_step (by repeat (first | (with_reducible first | exact HB.out | apply below_alloc | apply pw_below_drewN | apply below_drew1 | refine below_set ?_ (IsS132.ge HI0.out)) | exact HB.out)) hb); clear HO674; clear HI0; clear HK; clear HB; have HO674 := n0_; have HO685 := n1_; have HI0 := n2_; have HK := n3_; have HB := n4_; clear n0_ n1_ n2_ n3_ n4_; (try clear hb); (try clear hb2); (try clear hk); (try clear hi); (try clear ho0); obtain ⟨Ao40, co40, eo40⟩ := Kd.R_slice HO685.out; subst eo40) | ((with_reducible refine gate_callee (f := 118) rfl ?_); refine goesL_ (some 19) rfl rfl Try.func118 (by kernel_rfl) rfl #[.pointer (some ⟨g, 0, none⟩), .int .i64 (t683.length : Int)] rfl zm ?_; (with_reducible refine (spec_l01Next.calls g s0_0 t681 t682 (t683.length : Int) t686 t687 t688 w0 _ ?side1 ?side2 A6.out).mono ?_); (case side1 => repeat (first | (with_reducible first | exact HI0.out | apply IsS132.alloc | apply IsS132.drewN | apply IsS132.drew | apply IsS132.set_1 | apply IsS132.set_2) | exact HI0.out)); (case side2 => repeat (first | (with_reducible first | exact HB.out | apply below_alloc | apply pw_below_drewN | apply below_drew1 | refine below_set ?_ (IsS132.ge HI0.out)) | exact HB.out)); rintro e w41 ⟨rfl, hi, hb, hk⟩; refine ⟨_, rfl, ?_⟩; have n0_ := aM (Kd.R_mono (Kd.R_keep (IsS132.apart (show IsS132 w0 _ g s0_0 t681 t682 from by repeat (first | (with_reducible first | exact HI0.out | apply IsS132.alloc | apply IsS132.drewN | apply IsS132.drew | apply IsS132.set_1 | apply IsS132.set_2) | exact HI0.out)) (mR_ HO674.out) (by decide)) hk (fun _ h => h.2)) (fun _ h => h.1)); have n1_ := aM (Kd.R_mono (Kd.R_keep (IsS132.apart (show IsS132 w0 _ g s0_0 t681 t682 from by repeat (first | (with_reducible first | exact HI0.out | apply IsS132.alloc | apply IsS132.drewN | apply IsS132.drew | apply IsS132.set_1 | apply IsS132.set_2) | exact HI0.out)) (mR_ HO685.out) (by decide)) hk (fun _ h => h.2)) (fun _ h => h.1)); have n2_ := aM (KeepBut.trans (by repeat (first | (with_reducible first | exact HK.out | apply KeepBut.set_ | apply keep_drewN | apply keep_drew | apply keep_alloc) | exact HK.out)) hk (.inl rfl)); have n3_ := aM (hb); have n4_ := aM (hi); clear HO674; clear HO685; clear HK; clear HB; clear HI0; have HO674 := n0_; have HO685 := n1_; have HK := n2_; have HB := n3_; have HI0 := n4_; clear n0_ n1_ n2_ n3_ n4_; (try clear hb); (try clear hb2); (try clear hk); (try clear hi)) | ((with_reducible refine gate_callee (f := 118) rfl ?_); refine goesL_ (some 21) rfl rfl Try.func118 (by kernel_rfl) rfl #[.pointer (some ⟨g, 0, none⟩), .int .i64 24] rfl zm ?_; (with_reducible refine (spec_l01Next.calls g s0_0 t687 t688 24 t689 t690 t691 w0 _ ?side1 ?side2 A7.out).mono ?_); (case side1 => repeat (first | (with_reducible first | exact HI0.out | apply IsS132.alloc | apply IsS132.drewN | apply IsS132.drew | apply IsS132.set_1 | apply IsS132.set_2) | exact HI0.out)); (case side2 => repeat (first | (with_reducible first | exact HB.out | apply below_alloc | apply pw_below_drewN | apply below_drew1 | refine below_set ?_ (IsS132.ge HI0.out)) | exact HB.out)); rintro e w42 ⟨rfl, hi, hb, hk⟩; refine ⟨_, rfl, ?_⟩; have n0_ := aM (Kd.R_mono (Kd.R_keep (IsS132.apart (show IsS132 w0 _ g s0_0 t687 t688 from by repeat (first | (with_reducible first | exact HI0.out | apply IsS132.alloc | apply IsS132.drewN | apply IsS132.drew | apply IsS132.set_1 | apply IsS132.set_2) | exact HI0.out)) (mR_ HO674.out) (by decide)) hk (fun _ h => h.2)) (fun _ h => h.1)); have n1_ := aM (Kd.R_mono (Kd.R_keep (IsS132.apart (show IsS132 w0 _ g s0_0 t687 t688 from by repeat (first | (with_reducible first | exact HI0.out | apply IsS132.alloc | apply IsS132.drewN | apply IsS132.drew | apply IsS132.set_1 | apply IsS132.set_2) | exact HI0.out)) (mR_ HO685.out) (by decide)) hk (fun _ h => h.2)) (fun _ h => h.1)); have n2_ := aM (KeepBut.trans (by repeat (first | (with_reducible first | exact HK.out | apply KeepBut.set_ | apply keep_drewN | apply keep_drew | apply keep_alloc) | exact HK.out)) hk (.inl rfl)); have n3_ := aM (hb); have n4_ := aM (hi); clear HO674; clear HO685; clear HK; clear HB; clear HI0; have HO674 := n0_; have HO685 := n1_; have HK := n2_; have HB := n3_; have HI0 := n4_; clear n0_ n1_ n2_ n3_ n4_; (try clear hb); (try clear hb2); (try clear hk); (try clear hi); have p703 : 0 ≤ (t686 : Int) := of_decide_eq_true za; have q703 : t686 < (t683.length : Int) := of_decide_eq_true za; obtain ⟨ad703, e703, hx703_0, hx703_1⟩ := at_T59 (Kd.R_reads' HO685.out).2.2 t686 p703 q703; cases e703; replace p703 := eq_true p703; replace q703 := eq_true q703) | ((with_reducible refine gate_builtin (b := .append) (xs := #[.tmp 37, .tmp 42]) rfl ?_); at_builtin; refine Kd.R_append k59 w.heap.size rfl (.tmp 37) (.tmp 42) 43 59 (.agg #[(.int .i64 0), (.int .i64 0)]) 16 rfl Try.underlying43 info59 rfl (by decide) (by omega) (.slice (some ad703) t683.length co40) t683 (⟨(rd_T59 t683 t686).f0, (rd_T59 t683 t686).f1⟩ : S59) [.int .i64 ((rd_T59 t683 t686).f0), .int .i64 ((rd_T59 t683 t686).f1)] (fun k_ => some k_ ≠ (.slice Ao38 t672.length co38 : Value).ownBlock) (fun _ => False) rfl rfl ?aP (fun _ hk => hk.elim) ?aF ?aO (Below.refl _ _) ?aS ?aL ?_; (case aP => exact k59_mkM _ _ _ (⟨(rd_T59 t683 t686).f0, (rd_T59 t683 t686).f1⟩ : S59)); (case aF => exact (fun k_ hk => Kd.fresh' (Kd.R_lt (mR_ HO674.out)) k_ hk)); (case aO => exact (by (with_reducible repeat (first | apply Kd.R_alloc | apply Kd.R_drewN | apply Kd.R_drew)); exact Kd.R_mono HO685.out (fun _ hk => hk.2))); (case aS => exact (keep_size (w := w) (g := g) (row := none) (by repeat (first | (with_reducible first | exact HK.out | apply KeepBut.set_ | apply keep_drewN | apply keep_drew | apply keep_alloc) | exact HK.out)))); (case aL => have := LMc34.out; omega); intro v705 w43 ho hb hg hat; rw [← Ny704.out] at ho; have n0_ := aM (IsS132.grown (by repeat (first | (with_reducible first | exact HI0.out | apply IsS132.alloc | apply IsS132.drewN | apply IsS132.drew | apply IsS132.set_1 | apply IsS132.set_2) | exact HI0.out)) hg (IsS132.own_ne HI0.out HO685.out (by decide))); have n1_ := aM (Kd.R_after (ok := (fun _ => True)) (mR_ HO674.out) hg hat); have n2_ := aM (below_weaken (by repeat (first | (with_reducible first | exact HB.out | apply below_alloc | apply pw_below_drewN | apply below_drew1 | refine below_set ?_ (IsS132.ge HI0.out)) | exact HB.out)) HL.out hb); have n3_ := aM (KeepBut.trans (by repeat (first | (with_reducible first | exact HK.out | apply KeepBut.set_ | apply keep_drewN | apply keep_drew | apply keep_alloc) | exact HK.out)) (KeepBut.of_grown hg g) (Kd.R_base2 HO685.out)); have n4_ := aM (ho); clear HI0; clear HO674; clear HB; clear HK; clear HO685; have HI0 := n0_; have HO674 := n1_; have HB := n2_; have HK := n3_; have HO706 := n4_; clear n0_ n1_ n2_ n3_ n4_; clear ho hb hg hat))
  go_ret
  exact ⟨_, zw, by (with_reducible repeat (first | apply Kd.R_alloc | apply Kd.R_drewN | apply Kd.R_drew)); exact Kd.R_mono HO706.out (fun _ hk => trivial), by repeat (first | (with_reducible first | exact HI0.out | apply IsS132.alloc | apply IsS132.drewN | apply IsS132.drew | apply IsS132.set_1 | apply IsS132.set_2) | exact HI0.out), by repeat (first | (with_reducible first | exact HB.out | apply below_alloc | apply pw_below_drewN | apply below_drew1 | refine below_set ?_ (IsS132.ge HI0.out)) | exact HB.out), by repeat (first | (with_reducible first | exact HK.out | apply KeepBut.set_ | apply keep_drewN | apply keep_drew | apply keep_alloc) | exact HK.out)⟩
 rw [if_neg c31] at H
 have c31b0 : (t689 == 1) = false := beq_eq_false_iff_ne.mpr c31
 have c31b1 : (t689 != 1) = true := bne_iff_ne.mpr c31
 by_cases c44 : t689 = 2
 ·rw [if_pos c44] at H
  have c44b0 : (t689 == 2) = true := beq_iff_eq.mpr c44
  have c44b1 : (t689 != 2) = false := bne_eq_false_iff_eq.mpr c44
  clear c44
  simp only [Option.some.injEq, Prod.mk.injEq] at H
  obtain ⟨rfl, rfl, rfl⟩ := H
  go_enter Try.func119, Try.ntmps119
  go_wp2_with (first | ((with_reducible refine gate_callee (f := 149) rfl ?_); refine goesL_ (some 8) rfl rfl Try.func149 (by kernel_rfl) rfl #[.pointer (some ⟨g, 0, none⟩), .int .i64 8] rfl zm ?_; (with_reducible refine (spec_l02DrawPoly.calls k g s0_0 s0_1 s0_2 8 t672 t675 t676 w0 _ ?side1 ?side2 A2.out).mono ?_); (case side1 => repeat (first | (with_reducible first | exact HI0.out | apply IsS132.alloc | apply IsS132.drewN | apply IsS132.drew | apply IsS132.set_1 | apply IsS132.set_2) | exact HI0.out)); (case side2 => repeat (first | (with_reducible first | exact HB.out | apply below_alloc | apply pw_below_drewN | apply below_drew1 | refine below_set ?_ (IsS132.ge HI0.out)) | exact HB.out)); rintro e w45 ⟨v673, rfl, ho0, hi, hb, hk⟩; refine ⟨_, rfl, ?_⟩; have n0_ := aM (Kd.R_lower ho0 (keep_size (w := w) (g := g) (row := none) (by repeat (first | (with_reducible first | exact HK.out | apply KeepBut.set_ | apply keep_drewN | apply keep_drew | apply keep_alloc) | exact HK.out)))); have n1_ := aM (KeepBut.trans (by repeat (first | (with_reducible first | exact HK.out | apply KeepBut.set_ | apply keep_drewN | apply keep_drew | apply keep_alloc) | exact HK.out)) hk (.inl rfl)); have n2_ := aM (hb); have n3_ := aM (hi); clear HK; clear HB; clear HI0; have HO674 := n0_; have HK := n1_; have HB := n2_; have HI0 := n3_; clear n0_ n1_ n2_ n3_; (try clear hb); (try clear hb2); (try clear hk); (try clear hi); (try clear ho0)) | ((with_reducible refine gate_callee (f := 118) rfl ?_); refine goesL_ (some 10) rfl rfl Try.func118 (by kernel_rfl) rfl #[.pointer (some ⟨g, 0, none⟩), .int .i64 9] rfl zm ?_; (with_reducible refine (spec_l01Next.calls g s0_0 t675 t676 9 t677 t678 t679 w0 _ ?side1 ?side2 A3.out).mono ?_); (case side1 => repeat (first | (with_reducible first | exact HI0.out | apply IsS132.alloc | apply IsS132.drewN | apply IsS132.drew | apply IsS132.set_1 | apply IsS132.set_2) | exact HI0.out)); (case side2 => repeat (first | (with_reducible first | exact HB.out | apply below_alloc | apply pw_below_drewN | apply below_drew1 | refine below_set ?_ (IsS132.ge HI0.out)) | exact HB.out)); rintro e w46 ⟨rfl, hi, hb, hk⟩; refine ⟨_, rfl, ?_⟩; have n0_ := aM (Kd.R_mono (Kd.R_keep (IsS132.apart (show IsS132 w0 _ g s0_0 t675 t676 from by repeat (first | (with_reducible first | exact HI0.out | apply IsS132.alloc | apply IsS132.drewN | apply IsS132.drew | apply IsS132.set_1 | apply IsS132.set_2) | exact HI0.out)) (mR_ HO674.out) (by decide)) hk (fun _ h => h.2)) (fun _ h => h.1)); have n1_ := aM (KeepBut.trans (by repeat (first | (with_reducible first | exact HK.out | apply KeepBut.set_ | apply keep_drewN | apply keep_drew | apply keep_alloc) | exact HK.out)) hk (.inl rfl)); have n2_ := aM (hb); have n3_ := aM (hi); clear HO674; clear HK; clear HB; clear HI0; have HO674 := n0_; have HK := n1_; have HB := n2_; have HI0 := n3_; clear n0_ n1_ n2_ n3_; (try clear hb); (try clear hb2); (try clear hk); (try clear hi)) | ((with_reducible refine gate_callee (f := 118) rfl ?_); refine goesL_ (some 13) rfl rfl Try.func118 (by kernel_rfl) rfl #[.pointer (some ⟨g, 0, none⟩), .int .i64 9] rfl zm ?_; (with_reducible refine (spec_l01Next.calls g s0_0 t678 t679 9 t680 t681 t682 w0 _ ?side1 ?side2 A4.out).mono ?_); (case side1 => repeat (first | (with_reducible first | exact HI0.out | apply IsS132.alloc | apply IsS132.drewN | apply IsS132.drew | apply IsS132.set_1 | apply IsS132.set_2) | exact HI0.out)); (case side2 => repeat (first | (with_reducible first | exact HB.out | apply below_alloc | apply pw_below_drewN | apply below_drew1 | refine below_set ?_ (IsS132.ge HI0.out)) | exact HB.out)); rintro e w47 ⟨rfl, hi, hb, hk⟩; refine ⟨_, rfl, ?_⟩; have n0_ := aM (Kd.R_mono (Kd.R_keep (IsS132.apart (show IsS132 w0 _ g s0_0 t678 t679 from by repeat (first | (with_reducible first | exact HI0.out | apply IsS132.alloc | apply IsS132.drewN | apply IsS132.drew | apply IsS132.set_1 | apply IsS132.set_2) | exact HI0.out)) (mR_ HO674.out) (by decide)) hk (fun _ h => h.2)) (fun _ h => h.1)); have n1_ := aM (KeepBut.trans (by repeat (first | (with_reducible first | exact HK.out | apply KeepBut.set_ | apply keep_drewN | apply keep_drew | apply keep_alloc) | exact HK.out)) hk (.inl rfl)); have n2_ := aM (hb); have n3_ := aM (hi); clear HO674; clear HK; clear HB; clear HI0; have HO674 := n0_; have HK := n1_; have HB := n2_; have HI0 := n3_; clear n0_ n1_ n2_ n3_; (try clear hb); (try clear hb2); (try clear hk); (try clear hi); obtain ⟨Ao48, co48, eo48⟩ := Kd.R_slice HO674.out; subst eo48) | ((with_reducible refine gate_callee (f := 152) rfl ?_); refine goesL_ (some 15) rfl rfl Try.func152 (by kernel_rfl) rfl #[.slice Ao48 t672.length co48, .int .i64 (wrap64 (t677 - 4)), .int .i64 (wrap64 (t680 - 4))] rfl zm ?_; (with_reducible refine (spec_l02Move.calls k _ _ t672 (wrap64 (t677 - 4)) (wrap64 (t680 - 4)) t683 _ ?side1 ?side2 A5.out).mono ?_); (case side1 => repeat (first | exact (Kd.R_reads' HO674.out).2.2 | (with_reducible refine Kd.C_alloc ?_ _) | (with_reducible refine Kd.C_drewN ?_ _) | (with_reducible refine Kd.C_drew ?_))); (case side2 => exact (Kd.R_reads' HO674.out).2.1); rintro e w49 ⟨v684, rfl, ho0, hb⟩; refine ⟨_, rfl, ?_⟩; have n0_ := aM (Kd.R_elder' (mR_ HO674.out) (Kd.R_base ho0) hb); have n1_ := aM (Kd.R_lower (Kd.R_new' ho0 (Kd.R_lt (mR_ HO674.out))) (keep_size (w := w) (g := g) (row := none) (by repeat (first | (with_reducible first | exact HK.out | apply KeepBut.set_ | apply keep_drewN | apply keep_drew | apply keep_alloc) | exact HK.out)))); have n2_ := aM (IsS132.below (by repeat (first | (with_reducible first | exact HI0.out | apply IsS132.alloc | apply IsS132.drewN | apply IsS132.drew | apply IsS132.set_1 | apply IsS132.set_2) | exact HI0.out)) hb); have n3_ := aM (KeepBut.trans (by repeat (first | (with_reducible first | exact HK.out | apply KeepBut.set_ | apply keep_drewN | apply keep_drew | apply keep_alloc) | exact HK.out)) (KeepBut.of_below hb g none) (.inl rfl)); have n4_ := aM (below_step (by repeat (first | (with_reducible first | exact HB.out | apply below_alloc | apply pw_below_drewN | apply below_drew1 | refine below_set ?_ (IsS132.ge HI0.out)) | exact HB.out)) hb); clear HO674; clear HI0; clear HK; clear HB; have HO674 := n0_; have HO685 := n1_; have HI0 := n2_; have HK := n3_; have HB := n4_; clear n0_ n1_ n2_ n3_ n4_; (try clear hb); (try clear hb2); (try clear hk); (try clear hi); (try clear ho0); obtain ⟨Ao50, co50, eo50⟩ := Kd.R_slice HO685.out; subst eo50) | ((with_reducible refine gate_callee (f := 118) rfl ?_); refine goesL_ (some 19) rfl rfl Try.func118 (by kernel_rfl) rfl #[.pointer (some ⟨g, 0, none⟩), .int .i64 (t683.length : Int)] rfl zm ?_; (with_reducible refine (spec_l01Next.calls g s0_0 t681 t682 (t683.length : Int) t686 t687 t688 w0 _ ?side1 ?side2 A6.out).mono ?_); (case side1 => repeat (first | (with_reducible first | exact HI0.out | apply IsS132.alloc | apply IsS132.drewN | apply IsS132.drew | apply IsS132.set_1 | apply IsS132.set_2) | exact HI0.out)); (case side2 => repeat (first | (with_reducible first | exact HB.out | apply below_alloc | apply pw_below_drewN | apply below_drew1 | refine below_set ?_ (IsS132.ge HI0.out)) | exact HB.out)); rintro e w51 ⟨rfl, hi, hb, hk⟩; refine ⟨_, rfl, ?_⟩; have n0_ := aM (Kd.R_mono (Kd.R_keep (IsS132.apart (show IsS132 w0 _ g s0_0 t681 t682 from by repeat (first | (with_reducible first | exact HI0.out | apply IsS132.alloc | apply IsS132.drewN | apply IsS132.drew | apply IsS132.set_1 | apply IsS132.set_2) | exact HI0.out)) (mR_ HO674.out) (by decide)) hk (fun _ h => h.2)) (fun _ h => h.1)); have n1_ := aM (Kd.R_mono (Kd.R_keep (IsS132.apart (show IsS132 w0 _ g s0_0 t681 t682 from by repeat (first | (with_reducible first | exact HI0.out | apply IsS132.alloc | apply IsS132.drewN | apply IsS132.drew | apply IsS132.set_1 | apply IsS132.set_2) | exact HI0.out)) (mR_ HO685.out) (by decide)) hk (fun _ h => h.2)) (fun _ h => h.1)); have n2_ := aM (KeepBut.trans (by repeat (first | (with_reducible first | exact HK.out | apply KeepBut.set_ | apply keep_drewN | apply keep_drew | apply keep_alloc) | exact HK.out)) hk (.inl rfl)); have n3_ := aM (hb); have n4_ := aM (hi); clear HO674; clear HO685; clear HK; clear HB; clear HI0; have HO674 := n0_; have HO685 := n1_; have HK := n2_; have HB := n3_; have HI0 := n4_; clear n0_ n1_ n2_ n3_ n4_; (try clear hb); (try clear hb2); (try clear hk); (try clear hi)) | ((with_reducible refine gate_callee (f := 118) rfl ?_); refine goesL_ (some 21) rfl rfl Try.func118 (by kernel_rfl) rfl #[.pointer (some ⟨g, 0, none⟩), .int .i64 24] rfl zm ?_; (with_reducible refine (spec_l01Next.calls g s0_0 t687 t688 24 t689 t690 t691 w0 _ ?side1 ?side2 A7.out).mono ?_); (case side1 => repeat (first | (with_reducible first | exact HI0.out | apply IsS132.alloc | apply IsS132.drewN | apply IsS132.drew | apply IsS132.set_1 | apply IsS132.set_2) | exact HI0.out)); (case side2 => repeat (first | (with_reducible first | exact HB.out | apply below_alloc | apply pw_below_drewN | apply below_drew1 | refine below_set ?_ (IsS132.ge HI0.out)) | exact HB.out)); rintro e w52 ⟨rfl, hi, hb, hk⟩; refine ⟨_, rfl, ?_⟩; have n0_ := aM (Kd.R_mono (Kd.R_keep (IsS132.apart (show IsS132 w0 _ g s0_0 t687 t688 from by repeat (first | (with_reducible first | exact HI0.out | apply IsS132.alloc | apply IsS132.drewN | apply IsS132.drew | apply IsS132.set_1 | apply IsS132.set_2) | exact HI0.out)) (mR_ HO674.out) (by decide)) hk (fun _ h => h.2)) (fun _ h => h.1)); have n1_ := aM (Kd.R_mono (Kd.R_keep (IsS132.apart (show IsS132 w0 _ g s0_0 t687 t688 from by repeat (first | (with_reducible first | exact HI0.out | apply IsS132.alloc | apply IsS132.drewN | apply IsS132.drew | apply IsS132.set_1 | apply IsS132.set_2) | exact HI0.out)) (mR_ HO685.out) (by decide)) hk (fun _ h => h.2)) (fun _ h => h.1)); have n2_ := aM (KeepBut.trans (by repeat (first | (with_reducible first | exact HK.out | apply KeepBut.set_ | apply keep_drewN | apply keep_drew | apply keep_alloc) | exact HK.out)) hk (.inl rfl)); have n3_ := aM (hb); have n4_ := aM (hi); clear HO674; clear HO685; clear HK; clear HB; clear HI0; have HO674 := n0_; have HO685 := n1_; have HK := n2_; have HB := n3_; have HI0 := n4_; clear n0_ n1_ n2_ n3_ n4_; (try clear hb); (try clear hb2); (try clear hk); (try clear hi)))
  go_ret
  exact ⟨_, zw, by first | exact Kd.R_nil _ _ _ _ _ | exact Kd.N_nil _ _ _ _ _ | exact Kd.V_nil _ _ _ _ _ | exact Kd.Q_nil _ _ _ _ _ | exact Kd.S_nil _ _ _ _ _, by repeat (first | (with_reducible first | exact HI0.out | apply IsS132.alloc | apply IsS132.drewN | apply IsS132.drew | apply IsS132.set_1 | apply IsS132.set_2) | exact HI0.out), by repeat (first | (with_reducible first | exact HB.out | apply below_alloc | apply pw_below_drewN | apply below_drew1 | refine below_set ?_ (IsS132.ge HI0.out)) | exact HB.out), by repeat (first | (with_reducible first | exact HK.out | apply KeepBut.set_ | apply keep_drewN | apply keep_drew | apply keep_alloc) | exact HK.out)⟩
 rw [if_neg c44] at H
 have c44b0 : (t689 == 2) = false := beq_eq_false_iff_ne.mpr c44
 have c44b1 : (t689 != 2) = true := bne_iff_ne.mpr c44
 by_cases c53 : t689 = 3
 ·rw [if_pos c53] at H
  have c53b0 : (t689 == 3) = true := beq_iff_eq.mpr c53
  have c53b1 : (t689 != 3) = false := bne_eq_false_iff_eq.mpr c53
  clear c53
  obtain ⟨y707, hy707⟩ : ∃ y_ : List (S59), y_ = (([] : List (S59))) := ⟨_, rfl⟩
  replace H : (spec_l02Draw.l0 k y707 0 s0_0 t690 t691) = some (r1, r2, r3) := zy H hy707
  have Ny707 := aM hy707
  clear hy707
  have H' := aM H
  clear H
  go_enter Try.func119, Try.ntmps119
  go_wp2_with (first | ((with_reducible refine gate_callee (f := 149) rfl ?_); refine goesL_ (some 8) rfl rfl Try.func149 (by kernel_rfl) rfl #[.pointer (some ⟨g, 0, none⟩), .int .i64 8] rfl zm ?_; (with_reducible refine (spec_l02DrawPoly.calls k g s0_0 s0_1 s0_2 8 t672 t675 t676 w0 _ ?side1 ?side2 A2.out).mono ?_); (case side1 => repeat (first | (with_reducible first | exact HI0.out | apply IsS132.alloc | apply IsS132.drewN | apply IsS132.drew | apply IsS132.set_1 | apply IsS132.set_2) | exact HI0.out)); (case side2 => repeat (first | (with_reducible first | exact HB.out | apply below_alloc | apply pw_below_drewN | apply below_drew1 | refine below_set ?_ (IsS132.ge HI0.out)) | exact HB.out)); rintro e w54 ⟨v673, rfl, ho0, hi, hb, hk⟩; refine ⟨_, rfl, ?_⟩; have n0_ := aM (Kd.R_lower ho0 (keep_size (w := w) (g := g) (row := none) (by repeat (first | (with_reducible first | exact HK.out | apply KeepBut.set_ | apply keep_drewN | apply keep_drew | apply keep_alloc) | exact HK.out)))); have n1_ := aM (KeepBut.trans (by repeat (first | (with_reducible first | exact HK.out | apply KeepBut.set_ | apply keep_drewN | apply keep_drew | apply keep_alloc) | exact HK.out)) hk (.inl rfl)); have n2_ := aM (hb); have n3_ := aM (hi); clear HK; clear HB; clear HI0; have HO674 := n0_; have HK := n1_; have HB := n2_; have HI0 := n3_; clear n0_ n1_ n2_ n3_; (try clear hb); (try clear hb2); (try clear hk); (try clear hi); (try clear ho0)) | ((with_reducible refine gate_callee (f := 118) rfl ?_); refine goesL_ (some 10) rfl rfl Try.func118 (by kernel_rfl) rfl #[.pointer (some ⟨g, 0, none⟩), .int .i64 9] rfl zm ?_; (with_reducible refine (spec_l01Next.calls g s0_0 t675 t676 9 t677 t678 t679 w0 _ ?side1 ?side2 A3.out).mono ?_); (case side1 => repeat (first | (with_reducible first | exact HI0.out | apply IsS132.alloc | apply IsS132.drewN | apply IsS132.drew | apply IsS132.set_1 | apply IsS132.set_2) | exact HI0.out)); (case side2 => repeat (first | (with_reducible first | exact HB.out | apply below_alloc | apply pw_below_drewN | apply below_drew1 | refine below_set ?_ (IsS132.ge HI0.out)) | exact HB.out)); rintro e w55 ⟨rfl, hi, hb, hk⟩; refine ⟨_, rfl, ?_⟩; have n0_ := aM (Kd.R_mono (Kd.R_keep (IsS132.apart (show IsS132 w0 _ g s0_0 t675 t676 from by repeat (first | (with_reducible first | exact HI0.out | apply IsS132.alloc | apply IsS132.drewN | apply IsS132.drew | apply IsS132.set_1 | apply IsS132.set_2) | exact HI0.out)) (mR_ HO674.out) (by decide)) hk (fun _ h => h.2)) (fun _ h => h.1)); have n1_ := aM (KeepBut.trans (by repeat (first | (with_reducible first | exact HK.out | apply KeepBut.set_ | apply keep_drewN | apply keep_drew | apply keep_alloc) | exact HK.out)) hk (.inl rfl)); have n2_ := aM (hb); have n3_ := aM (hi); clear HO674; clear HK; clear HB; clear HI0; have HO674 := n0_; have HK := n1_; have HB := n2_; have HI0 := n3_; clear n0_ n1_ n2_ n3_; (try clear hb); (try clear hb2); (try clear hk); (try clear hi)) | ((with_reducible refine gate_callee (f := 118) rfl ?_); refine goesL_ (some 13) rfl rfl Try.func118 (by kernel_rfl) rfl #[.pointer (some ⟨g, 0, none⟩), .int .i64 9] rfl zm ?_; (with_reducible refine (spec_l01Next.calls g s0_0 t678 t679 9 t680 t681 t682 w0 _ ?side1 ?side2 A4.out).mono ?_); (case side1 => repeat (first | (with_reducible first | exact HI0.out | apply IsS132.alloc | apply IsS132.drewN | apply IsS132.drew | apply IsS132.set_1 | apply IsS132.set_2) | exact HI0.out)); (case side2 => repeat (first | (with_reducible first | exact HB.out | apply below_alloc | apply pw_below_drewN | apply below_drew1 | refine below_set ?_ (IsS132.ge HI0.out)) | exact HB.out)); rintro e w56 ⟨rfl, hi, hb, hk⟩; refine ⟨_, rfl, ?_⟩; have n0_ := aM (Kd.R_mono (Kd.R_keep (IsS132.apart (show IsS132 w0 _ g s0_0 t678 t679 from by repeat (first | (with_reducible first | exact HI0.out | apply IsS132.alloc | apply IsS132.drewN | apply IsS132.drew | apply IsS132.set_1 | apply IsS132.set_2) | exact HI0.out)) (mR_ HO674.out) (by decide)) hk (fun _ h => h.2)) (fun _ h => h.1)); have n1_ := aM (KeepBut.trans (by repeat (first | (with_reducible first | exact HK.out | apply KeepBut.set_ | apply keep_drewN | apply keep_drew | apply keep_alloc) | exact HK.out)) hk (.inl rfl)); have n2_ := aM (hb); have n3_ := aM (hi); clear HO674; clear HK; clear HB; clear HI0; have HO674 := n0_; have HK := n1_; have HB := n2_; have HI0 := n3_; clear n0_ n1_ n2_ n3_; (try clear hb); (try clear hb2); (try clear hk); (try clear hi); obtain ⟨Ao57, co57, eo57⟩ := Kd.R_slice HO674.out; subst eo57) | ((with_reducible refine gate_callee (f := 152) rfl ?_); refine goesL_ (some 15) rfl rfl Try.func152 (by kernel_rfl) rfl #[.slice Ao57 t672.length co57, .int .i64 (wrap64 (t677 - 4)), .int .i64 (wrap64 (t680 - 4))] rfl zm ?_; (with_reducible refine (spec_l02Move.calls k _ _ t672 (wrap64 (t677 - 4)) (wrap64 (t680 - 4)) t683 _ ?side1 ?side2 A5.out).mono ?_); (case side1 => repeat (first | exact (Kd.R_reads' HO674.out).2.2 | (with_reducible refine Kd.C_alloc ?_ _) | (with_reducible refine Kd.C_drewN ?_ _) | (with_reducible refine Kd.C_drew ?_))); (case side2 => exact (Kd.R_reads' HO674.out).2.1); rintro e w58 ⟨v684, rfl, ho0, hb⟩; refine ⟨_, rfl, ?_⟩; have n0_ := aM (Kd.R_elder' (mR_ HO674.out) (Kd.R_base ho0) hb); have n1_ := aM (Kd.R_lower (Kd.R_new' ho0 (Kd.R_lt (mR_ HO674.out))) (keep_size (w := w) (g := g) (row := none) (by repeat (first | (with_reducible first | exact HK.out | apply KeepBut.set_ | apply keep_drewN | apply keep_drew | apply keep_alloc) | exact HK.out)))); have n2_ := aM (IsS132.below (by repeat (first | (with_reducible first | exact HI0.out | apply IsS132.alloc | apply IsS132.drewN | apply IsS132.drew | apply IsS132.set_1 | apply IsS132.set_2) | exact HI0.out)) hb); have n3_ := aM (KeepBut.trans (by repeat (first | (with_reducible first | exact HK.out | apply KeepBut.set_ | apply keep_drewN | apply keep_drew | apply keep_alloc) | exact HK.out)) (KeepBut.of_below hb g none) (.inl rfl)); have n4_ := aM (below_step (by repeat (first | (with_reducible first | exact HB.out | apply below_alloc | apply pw_below_drewN | apply below_drew1 | refine below_set ?_ (IsS132.ge HI0.out)) | exact HB.out)) hb); clear HO674; clear HI0; clear HK; clear HB; have HO674 := n0_; have HO685 := n1_; have HI0 := n2_; have HK := n3_; have HB := n4_; clear n0_ n1_ n2_ n3_ n4_; (try clear hb); (try clear hb2); (try clear hk); (try clear hi); (try clear ho0); obtain ⟨Ao59, co59, eo59⟩ := Kd.R_slice HO685.out; subst eo59) | ((with_reducible refine gate_callee (f := 118) rfl ?_); refine goesL_ (some 19) rfl rfl Try.func118 (by kernel_rfl) rfl #[.pointer (some ⟨g, 0, none⟩), .int .i64 (t683.length : Int)] rfl zm ?_; (with_reducible refine (spec_l01Next.calls g s0_0 t681 t682 (t683.length : Int) t686 t687 t688 w0 _ ?side1 ?side2 A6.out).mono ?_); (case side1 => repeat (first | (with_reducible first | exact HI0.out | apply IsS132.alloc | apply IsS132.drewN | apply IsS132.drew | apply IsS132.set_1 | apply IsS132.set_2) | exact HI0.out)); (case side2 => repeat (first | (with_reducible first | exact HB.out | apply below_alloc | apply pw_below_drewN | apply below_drew1 | refine below_set ?_ (IsS132.ge HI0.out)) | exact HB.out)); rintro e w60 ⟨rfl, hi, hb, hk⟩; refine ⟨_, rfl, ?_⟩; have n0_ := aM (Kd.R_mono (Kd.R_keep (IsS132.apart (show IsS132 w0 _ g s0_0 t681 t682 from by repeat (first | (with_reducible first | exact HI0.out | apply IsS132.alloc | apply IsS132.drewN | apply IsS132.drew | apply IsS132.set_1 | apply IsS132.set_2) | exact HI0.out)) (mR_ HO674.out) (by decide)) hk (fun _ h => h.2)) (fun _ h => h.1)); have n1_ := aM (Kd.R_mono (Kd.R_keep (IsS132.apart (show IsS132 w0 _ g s0_0 t681 t682 from by repeat (first | (with_reducible first | exact HI0.out | apply IsS132.alloc | apply IsS132.drewN | apply IsS132.drew | apply IsS132.set_1 | apply IsS132.set_2) | exact HI0.out)) (mR_ HO685.out) (by decide)) hk (fun _ h => h.2)) (fun _ h => h.1)); have n2_ := aM (KeepBut.trans (by repeat (first | (with_reducible first | exact HK.out | apply KeepBut.set_ | apply keep_drewN | apply keep_drew | apply keep_alloc) | exact HK.out)) hk (.inl rfl)); have n3_ := aM (hb); have n4_ := aM (hi); clear HO674; clear HO685; clear HK; clear HB; clear HI0; have HO674 := n0_; have HO685 := n1_; have HK := n2_; have HB := n3_; have HI0 := n4_; clear n0_ n1_ n2_ n3_ n4_; (try clear hb); (try clear hb2); (try clear hk); (try clear hi)) | ((with_reducible refine gate_callee (f := 118) rfl ?_); refine goesL_ (some 21) rfl rfl Try.func118 (by kernel_rfl) rfl #[.pointer (some ⟨g, 0, none⟩), .int .i64 24] rfl zm ?_; (with_reducible refine (spec_l01Next.calls g s0_0 t687 t688 24 t689 t690 t691 w0 _ ?side1 ?side2 A7.out).mono ?_); (case side1 => repeat (first | (with_reducible first | exact HI0.out | apply IsS132.alloc | apply IsS132.drewN | apply IsS132.drew | apply IsS132.set_1 | apply IsS132.set_2) | exact HI0.out)); (case side2 => repeat (first | (with_reducible first | exact HB.out | apply below_alloc | apply pw_below_drewN | apply below_drew1 | refine below_set ?_ (IsS132.ge HI0.out)) | exact HB.out)); rintro e w61 ⟨rfl, hi, hb, hk⟩; refine ⟨_, rfl, ?_⟩; have n0_ := aM (Kd.R_mono (Kd.R_keep (IsS132.apart (show IsS132 w0 _ g s0_0 t687 t688 from by repeat (first | (with_reducible first | exact HI0.out | apply IsS132.alloc | apply IsS132.drewN | apply IsS132.drew | apply IsS132.set_1 | apply IsS132.set_2) | exact HI0.out)) (mR_ HO674.out) (by decide)) hk (fun _ h => h.2)) (fun _ h => h.1)); have n1_ := aM (Kd.R_mono (Kd.R_keep (IsS132.apart (show IsS132 w0 _ g s0_0 t687 t688 from by repeat (first | (with_reducible first | exact HI0.out | apply IsS132.alloc | apply IsS132.drewN | apply IsS132.drew | apply IsS132.set_1 | apply IsS132.set_2) | exact HI0.out)) (mR_ HO685.out) (by decide)) hk (fun _ h => h.2)) (fun _ h => h.1)); have n2_ := aM (KeepBut.trans (by repeat (first | (with_reducible first | exact HK.out | apply KeepBut.set_ | apply keep_drewN | apply keep_drew | apply keep_alloc) | exact HK.out)) hk (.inl rfl)); have n3_ := aM (hb); have n4_ := aM (hi); clear HO674; clear HO685; clear HK; clear HB; clear HI0; have HO674 := n0_; have HO685 := n1_; have HK := n2_; have HB := n3_; have HI0 := n4_; clear n0_ n1_ n2_ n3_ n4_; (try clear hb); (try clear hb2); (try clear hk); (try clear hi)) | ((with_reducible refine gate_dst (N := 48) rfl ?_); refine Kd.R_lit k59 _ 59 ?hg (N := 48) ?hd (xs := ([] : List (S59))) (inner := []) (ok := fun _ => True) (okp := fun _ => True) ?hr ?hp (fun _ hk => hk) trivial (Below.refl _ _) (Nat.le_refl _) (by simp) ?_; (case hd => rfl); (case hg => rfl); (case hr => first | (go_simp; done) | (go_simp; rfl)); (case hp => exact (Reps.none _ _)); intro v708 w62 ho63 hb hg_ hnew_; clear hg_ hnew_; (first | rw [← Ny707.out] at ho63 | (simp only [Int.reduceToNat] at ho63; rw [← Ny707.out] at ho63)); have n0_ := aM (Kd.R_elder' (mR_ HO674.out) (Kd.R_base ho63) hb); have n1_ := aM (Kd.R_elder' (mR_ HO685.out) (Kd.R_base ho63) hb); have n2_ := aM (Kd.R_lower (Kd.R_new' (Kd.R_new' ho63 (Kd.R_lt (mR_ HO674.out))) (Kd.R_lt (mR_ HO685.out))) (keep_size (w := w) (g := g) (row := none) (by repeat (first | (with_reducible first | exact HK.out | apply KeepBut.set_ | apply keep_drewN | apply keep_drew | apply keep_alloc) | exact HK.out)))); have n3_ := aM (IsS132.below (by repeat (first | (with_reducible first | exact HI0.out | apply IsS132.alloc | apply IsS132.drewN | apply IsS132.drew | apply IsS132.set_1 | apply IsS132.set_2) | exact HI0.out)) hb); have n4_ := aM (KeepBut.trans (by repeat (first | (with_reducible first | exact HK.out | apply KeepBut.set_ | apply keep_drewN | apply keep_drew | apply keep_alloc) | exact HK.out)) (KeepBut.of_below hb g none) (.inl rfl)); have n5_ := aM (below_step (by repeat (first | (with_reducible first | exact HB.out | apply below_alloc | apply pw_below_drewN | apply below_drew1 | refine below_set ?_ (IsS132.ge HI0.out)) | exact HB.out)) hb); clear HO674; clear HO685; clear HI0; clear HK; clear HB; have HO674 := n0_; have HO685 := n1_; have HO709 := n2_; have HI0 := n3_; have HK := n4_; have HB := n5_; clear n0_ n1_ n2_ n3_ n4_ n5_; clear hb ho63))
  go_loopg [5, 6] k (fun kq v5 v6 w' => ∃ (x5_1 : List (S59)) (x6_1 : Int) (x1001_1 : Int) (x1002_1 : Int), v6 = .int .i64 x6_1 ∧ Aside0 (spec_l02Draw.l0 kq x5_1 x6_1 s0_0 x1001_1 x1002_1 = some (r1, r2, r3)) ∧ Aside0 (kq ≤ k) ∧ Aside0 (Kd.R k59 59 w' w.heap.size (fun _ => True) v5 x5_1) ∧ Aside0 (IsS132 w0 w' g s0_0 x1001_1 x1002_1) ∧ Aside0 (KeepBut w w' g none) ∧ Aside0 (Below w0.heap.size w0 w'))
  case atStart => exact ⟨(y707), (0), (t690), (t691), zr, H', ⟨Nat.le_refl _⟩, ⟨by (with_reducible repeat (first | apply Kd.R_alloc | apply Kd.R_drewN | apply Kd.R_drew)); exact Kd.R_mono HO709.out (fun _ hk => trivial)⟩, ⟨by repeat (first | (with_reducible first | exact HI0.out | apply IsS132.alloc | apply IsS132.drewN | apply IsS132.drew | apply IsS132.set_1 | apply IsS132.set_2) | exact HI0.out)⟩, ⟨by repeat (first | (with_reducible first | exact HK.out | apply KeepBut.set_ | apply keep_drewN | apply keep_drew | apply keep_alloc) | exact HK.out)⟩, ⟨by repeat (first | (with_reducible first | exact HB.out | apply below_alloc | apply pw_below_drewN | apply below_drew1 | refine below_set ?_ (IsS132.ge HI0.out)) | exact HB.out)⟩⟩
  case round =>
   clear H'
   try clear c1
   try clear p1
   try clear q1
   try clear hx1
   try clear hf1
   try clear c2
   try clear p2
   try clear hx2
   try clear hf2
   try clear c3
   try clear c4
   try clear c5
   try clear p6
   try clear q6
   try clear hx6
   try clear p7
   try clear q7
   try clear hx7
   try clear c8
   try clear c8b0
   try clear c8b1
   try clear c10
   try clear c10b0
   try clear c11
   try clear c11b0
   try clear c12
   try clear c12b0
   try clear c13
   try clear c13b0
   try clear c14
   try clear p14
   try clear q14
   try clear hx14
   try clear hf14
   try clear c15
   try clear c28
   try clear hx28
   try clear hf28
   try clear c31
   try clear c31b0
   try clear c31b1
   try clear c32
   try clear c32b0
   try clear c33
   try clear c33b0
   try clear c34
   try clear c44
   try clear c44b0
   try clear c44b1
   try clear c53
   try clear c53b0
   try clear c53b1
   try clear hx14_0
   try clear hx14_1
   try clear hx28_0
   try clear hx698_0
   try clear hx703_0
   try clear hx703_1
   try clear p14
   try clear p698
   try clear p703
   try clear q14
   try clear q698
   try clear q703
   obtain ⟨x5_1, x6_1, x1001_1, x1002_1, rfl, HA, HK1, HO_5, HI0, HK, HB⟩ := hrel
   cases gk with
   | zero => exact absurd HA.out (by simp [spec_l02Draw.l0])
   | succ k1 =>
    have H := HA.out
    clear HA
    simp only [spec_l02Draw.l0] at H
    replace H := Option.bind_eq_some_iff.mp H
    obtain ⟨⟨t710, t711, t712⟩, A640, H⟩ := H
    replace H : (if x6_1 < (wrap64 (40 + t710)) then (if x5_1.length < 8796093022208 then (spec_l02Draw.l0 k1 (x5_1 ++ [(⟨x6_1, 0⟩ : S59)]) (wrap64 (x6_1 + 1)) s0_0 t711 t712) else (none)) else (some (x5_1, t711, t712))) = some (r1, r2, r3) := H
    have A64 := aM A640
    clear A640
    by_cases c65 : x6_1 < (wrap64 (40 + t710))
    rotate_left
    ·rw [if_neg c65] at H
     have c65b0 : decide (x6_1 < (wrap64 (40 + t710))) = false := decide_eq_false c65
     clear c65
     simp only [Option.some.injEq, Prod.mk.injEq] at H
     obtain ⟨rfl, rfl, rfl⟩ := H
     go_wp2_with (first | ((with_reducible refine gate_callee (f := 118) rfl ?_); refine goesL_ (some 51) rfl rfl Try.func118 (by kernel_rfl) rfl #[.pointer (some ⟨g, 0, none⟩), .int .i64 2] rfl zm ?_; (with_reducible refine (spec_l01Next.calls g s0_0 x1001_1 x1002_1 2 t710 t711 t712 w0 _ ?side1 ?side2 A64.out).mono ?_); (case side1 => repeat (first | (with_reducible first | exact HI0.out | apply IsS132.alloc | apply IsS132.drewN | apply IsS132.drew | apply IsS132.set_1 | apply IsS132.set_2) | exact HI0.out)); (case side2 => repeat (first | (with_reducible first | exact HB.out | apply below_alloc | apply pw_below_drewN | apply below_drew1 | refine below_set ?_ (IsS132.ge HI0.out)) | exact HB.out)); rintro e w69 ⟨rfl, hi, hb, hk⟩; refine ⟨_, rfl, ?_⟩; have n0_ := aM (Kd.R_mono (Kd.R_keep (IsS132.apart (show IsS132 w0 _ g s0_0 x1001_1 x1002_1 from by repeat (first | (with_reducible first | exact HI0.out | apply IsS132.alloc | apply IsS132.drewN | apply IsS132.drew | apply IsS132.set_1 | apply IsS132.set_2) | exact HI0.out)) (mR_ HO_5.out) (by decide)) hk (fun _ h => h.2)) (fun _ h => h.1)); have n1_ := aM (KeepBut.trans (by repeat (first | (with_reducible first | exact HK.out | apply KeepBut.set_ | apply keep_drewN | apply keep_drew | apply keep_alloc) | exact HK.out)) hk (.inl rfl)); have n2_ := aM (hb); have n3_ := aM (hi); clear HO_5; clear HK; clear HB; clear HI0; have HO_5 := n0_; have HK := n1_; have HB := n2_; have HI0 := n3_; clear n0_ n1_ n2_ n3_; (try clear hb); (try clear hb2); (try clear hk); (try clear hi)))
     go_ret
     exact ⟨_, zw, mR_ HO_5.out, by repeat (first | (with_reducible first | exact HI0.out | apply IsS132.alloc | apply IsS132.drewN | apply IsS132.drew | apply IsS132.set_1 | apply IsS132.set_2) | exact HI0.out), by repeat (first | (with_reducible first | exact HB.out | apply below_alloc | apply pw_below_drewN | apply below_drew1 | refine below_set ?_ (IsS132.ge HI0.out)) | exact HB.out), by repeat (first | (with_reducible first | exact HK.out | apply KeepBut.set_ | apply keep_drewN | apply keep_drew | apply keep_alloc) | exact HK.out)⟩
    rw [if_pos c65] at H
    have c65b0 : decide (x6_1 < (wrap64 (40 + t710))) = true := decide_eq_true c65
    clear c65
    by_cases c66 : x5_1.length < 8796093022208
    rotate_left
    ·rw [if_neg c66] at H
     exact absurd H (by simp)
    rw [if_pos c66] at H
    have LMc66 := aM c66
    clear c66
    obtain ⟨y713, hy713⟩ : ∃ y_ : List (S59), y_ = (x5_1 ++ [(⟨x6_1, 0⟩ : S59)]) := ⟨_, rfl⟩
    replace H : (spec_l02Draw.l0 k1 y713 (wrap64 (x6_1 + 1)) s0_0 t711 t712) = some (r1, r2, r3) := zy H hy713
    have Ny713 := aM hy713
    clear hy713
    have H' := aM H
    clear H
    go_wp2_with (first | ((with_reducible refine gate_callee (f := 118) rfl ?_); refine goesL_ (some 51) rfl rfl Try.func118 (by kernel_rfl) rfl #[.pointer (some ⟨g, 0, none⟩), .int .i64 2] rfl zm ?_; (with_reducible refine (spec_l01Next.calls g s0_0 x1001_1 x1002_1 2 t710 t711 t712 w0 _ ?side1 ?side2 A64.out).mono ?_); (case side1 => repeat (first | (with_reducible first | exact HI0.out | apply IsS132.alloc | apply IsS132.drewN | apply IsS132.drew | apply IsS132.set_1 | apply IsS132.set_2) | exact HI0.out)); (case side2 => repeat (first | (with_reducible first | exact HB.out | apply below_alloc | apply pw_below_drewN | apply below_drew1 | refine below_set ?_ (IsS132.ge HI0.out)) | exact HB.out)); rintro e w67 ⟨rfl, hi, hb, hk⟩; refine ⟨_, rfl, ?_⟩; have n0_ := aM (Kd.R_mono (Kd.R_keep (IsS132.apart (show IsS132 w0 _ g s0_0 x1001_1 x1002_1 from by repeat (first | (with_reducible first | exact HI0.out | apply IsS132.alloc | apply IsS132.drewN | apply IsS132.drew | apply IsS132.set_1 | apply IsS132.set_2) | exact HI0.out)) (mR_ HO_5.out) (by decide)) hk (fun _ h => h.2)) (fun _ h => h.1)); have n1_ := aM (KeepBut.trans (by repeat (first | (with_reducible first | exact HK.out | apply KeepBut.set_ | apply keep_drewN | apply keep_drew | apply keep_alloc) | exact HK.out)) hk (.inl rfl)); have n2_ := aM (hb); have n3_ := aM (hi); clear HO_5; clear HK; clear HB; clear HI0; have HO_5 := n0_; have HK := n1_; have HB := n2_; have HI0 := n3_; clear n0_ n1_ n2_ n3_; (try clear hb); (try clear hb2); (try clear hk); (try clear hi)) | ((with_reducible refine gate_builtin (b := .append) (xs := #[.tmp 56, .tmp 59]) rfl ?_); at_builtin; refine Kd.R_append k59 w.heap.size rfl (.tmp 56) (.tmp 59) 43 59 (.agg #[(.int .i64 0), (.int .i64 0)]) 16 rfl Try.underlying43 info59 rfl (by decide) (by omega) u5 x5_1 (⟨x6_1, 0⟩ : S59) [.int .i64 x6_1, .int .i64 0] (fun _ => True) (fun _ => False) rfl rfl ?aP (fun _ hk => hk.elim) ?aF ?aO (Below.refl _ _) ?aS ?aL ?_; (case aP => exact k59_mkM _ _ _ (⟨x6_1, 0⟩ : S59)); (case aF => exact (fun _ _ => trivial)); (case aO => exact (mR_ HO_5.out)); (case aS => exact (keep_size (w := w) (g := g) (row := none) (by repeat (first | (with_reducible first | exact HK.out | apply KeepBut.set_ | apply keep_drewN | apply keep_drew | apply keep_alloc) | exact HK.out)))); (case aL => have := LMc66.out; omega); intro v714 w68 ho hb hg hat; rw [← Ny713.out] at ho; have n0_ := aM (IsS132.grown (by repeat (first | (with_reducible first | exact HI0.out | apply IsS132.alloc | apply IsS132.drewN | apply IsS132.drew | apply IsS132.set_1 | apply IsS132.set_2) | exact HI0.out)) hg (IsS132.own_ne HI0.out HO_5.out (by decide))); have n1_ := aM (below_weaken (by repeat (first | (with_reducible first | exact HB.out | apply below_alloc | apply pw_below_drewN | apply below_drew1 | refine below_set ?_ (IsS132.ge HI0.out)) | exact HB.out)) HL.out hb); have n2_ := aM (KeepBut.trans (by repeat (first | (with_reducible first | exact HK.out | apply KeepBut.set_ | apply keep_drewN | apply keep_drew | apply keep_alloc) | exact HK.out)) (KeepBut.of_grown hg g) (Kd.R_base2 HO_5.out)); have n3_ := aM (ho); clear HI0; clear HB; clear HK; clear HO_5; have HI0 := n0_; have HB := n1_; have HK := n2_; have HO715 := n3_; clear n0_ n1_ n2_ n3_; clear ho hb hg hat))
    go_roundg k1
    case measure => have := HK1.out; omega
    case rel => exact ⟨(y713), (wrap64 (x6_1 + 1)), (t711), (t712), zr, H', ⟨by have := HK1.out; omega⟩, ⟨mR_ HO715.out⟩, ⟨by repeat (first | (with_reducible first | exact HI0.out | apply IsS132.alloc | apply IsS132.drewN | apply IsS132.drew | apply IsS132.set_1 | apply IsS132.set_2) | exact HI0.out)⟩, ⟨by repeat (first | (with_reducible first | exact HK.out | apply KeepBut.set_ | apply keep_drewN | apply keep_drew | apply keep_alloc) | exact HK.out)⟩, ⟨by repeat (first | (with_reducible first | exact HB.out | apply below_alloc | apply pw_below_drewN | apply below_drew1 | refine below_set ?_ (IsS132.ge HI0.out)) | exact HB.out)⟩⟩
 rw [if_neg c53] at H
 have c53b0 : (t689 == 3) = false := beq_eq_false_iff_ne.mpr c53
 have c53b1 : (t689 != 3) = true := bne_iff_ne.mpr c53
 by_cases c70 : t689 = 4
 ·rw [if_pos c70] at H
  have c70b0 : (t689 == 4) = true := beq_iff_eq.mpr c70
  have c70b1 : (t689 != 4) = false := bne_eq_false_iff_eq.mpr c70
  clear c70
  by_cases c71 : 0 < (t683.length : Int)
  rotate_left
  ·rw [if_neg c71] at H
   exact absurd H (by simp)
  rw [if_pos c71] at H
  have c71b0 : decide (0 < (t683.length : Int)) = true := decide_eq_true c71
  have c71b1 : decide (0 < t683.length) = true := decide_eq_true (by omega)
  clear c71
  obtain ⟨ji72, hji72⟩ : ∃ j_ : Int, (wrap64 ((t683.length : Int) - 1)) = j_ := ⟨_, rfl⟩
  replace H : (if 0 ≤ (ji72) then (if (ji72) < (t683.length : Int) then (if t683.length < 8796093022208 then (some ((t683 ++ [(⟨wrap64 (((rd_T59 t683 0).f0) + 3), wrap64 (((rd_T59 t683 (ji72)).f1) + 2)⟩ : S59)]), t690, t691)) else (none)) else (none)) else (none)) = some (r1, r2, r3) := by first | (rw [hji72] at H; exact H) | (simp only [hji72] at H ⊢; exact H)
  (try rw [hji72] at A2)
  (try rw [hji72] at A3)
  (try rw [hji72] at A4)
  (try rw [hji72] at A5)
  (try rw [hji72] at A6)
  (try rw [hji72] at A7)
  have hji72w : (IntKind.i64.wrap ((t683.length : Int) - 1)) = ji72 := (i64_w _).trans hji72
  by_cases c73 : 0 ≤ (ji72)
  rotate_left
  ·rw [if_neg c73] at H
   exact absurd H (by simp)
  rw [if_pos c73] at H
  have c73b0 : decide (0 ≤ (ji72)) = true := decide_eq_true c73
  clear c73
  by_cases c74 : (ji72) < (t683.length : Int)
  rotate_left
  ·rw [if_neg c74] at H
   exact absurd H (by simp)
  rw [if_pos c74] at H
  have c74b0 : decide ((ji72) < (t683.length : Int)) = true := decide_eq_true c74
  clear c74
  by_cases c75 : t683.length < 8796093022208
  rotate_left
  ·rw [if_neg c75] at H
   exact absurd H (by simp)
  rw [if_pos c75] at H
  have LMc75 := aM c75
  clear c75
  obtain ⟨y718, hy718⟩ : ∃ y_ : List (S59), y_ = (t683 ++ [(⟨wrap64 (((rd_T59 t683 0).f0) + 3), wrap64 (((rd_T59 t683 (ji72)).f1) + 2)⟩ : S59)]) := ⟨_, rfl⟩
  replace H : (some (y718, t690, t691)) = some (r1, r2, r3) := zy H hy718
  have Ny718 := aM hy718
  clear hy718
  simp only [Option.some.injEq, Prod.mk.injEq] at H
  obtain ⟨rfl, rfl, rfl⟩ := H
  go_enter Try.func119, Try.ntmps119
  try go_wp2_with (first | ((with_reducible refine gate_callee (f := 149) rfl ?_); refine goesL_ (some 8) rfl rfl Try.func149 (by kernel_rfl) rfl #[.pointer (some ⟨g, 0, none⟩), .int .i64 8] rfl zm ?_; (with_reducible refine (spec_l02DrawPoly.calls k g s0_0 s0_1 s0_2 8 t672 t675 t676 w0 _ ?side1 ?side2 A2.out).mono ?_); (case side1 => repeat (first | (with_reducible first | exact HI0.out | apply IsS132.alloc | apply IsS132.drewN | apply IsS132.drew | apply IsS132.set_1 | apply IsS132.set_2) | exact HI0.out)); (case side2 => repeat (first | (with_reducible first | exact HB.out | apply below_alloc | apply pw_below_drewN | apply below_drew1 | refine below_set ?_ (IsS132.ge HI0.out)) | exact HB.out)); rintro e w76 ⟨v673, rfl, ho0, hi, hb, hk⟩; refine ⟨_, rfl, ?_⟩; have n0_ := aM (Kd.R_lower ho0 (keep_size (w := w) (g := g) (row := none) (by repeat (first | (with_reducible first | exact HK.out | apply KeepBut.set_ | apply keep_drewN | apply keep_drew | apply keep_alloc) | exact HK.out)))); have n1_ := aM (KeepBut.trans (by repeat (first | (with_reducible first | exact HK.out | apply KeepBut.set_ | apply keep_drewN | apply keep_drew | apply keep_alloc) | exact HK.out)) hk (.inl rfl)); have n2_ := aM (hb); have n3_ := aM (hi); clear HK; clear HB; clear HI0; have HO674 := n0_; have HK := n1_; have HB := n2_; have HI0 := n3_; clear n0_ n1_ n2_ n3_; (try clear hb); (try clear hb2); (try clear hk); (try clear hi); (try clear ho0)) | ((with_reducible refine gate_callee (f := 118) rfl ?_); refine goesL_ (some 10) rfl rfl Try.func118 (by kernel_rfl) rfl #[.pointer (some ⟨g, 0, none⟩), .int .i64 9] rfl zm ?_; (with_reducible refine (spec_l01Next.calls g s0_0 t675 t676 9 t677 t678 t679 w0 _ ?side1 ?side2 A3.out).mono ?_); (case side1 => repeat (first | (with_reducible first | exact HI0.out | apply IsS132.alloc | apply IsS132.drewN | apply IsS132.drew | apply IsS132.set_1 | apply IsS132.set_2) | exact HI0.out)); (case side2 => repeat (first | (with_reducible first | exact HB.out | apply below_alloc | apply pw_below_drewN | apply below_drew1 | refine below_set ?_ (IsS132.ge HI0.out)) | exact HB.out)); rintro e w77 ⟨rfl, hi, hb, hk⟩; refine ⟨_, rfl, ?_⟩; have n0_ := aM (Kd.R_mono (Kd.R_keep (IsS132.apart (show IsS132 w0 _ g s0_0 t675 t676 from by repeat (first | (with_reducible first | exact HI0.out | apply IsS132.alloc | apply IsS132.drewN | apply IsS132.drew | apply IsS132.set_1 | apply IsS132.set_2) | exact HI0.out)) (mR_ HO674.out) (by decide)) hk (fun _ h => h.2)) (fun _ h => h.1)); have n1_ := aM (KeepBut.trans (by repeat (first | (with_reducible first | exact HK.out | apply KeepBut.set_ | apply keep_drewN | apply keep_drew | apply keep_alloc) | exact HK.out)) hk (.inl rfl)); have n2_ := aM (hb); have n3_ := aM (hi); clear HO674; clear HK; clear HB; clear HI0; have HO674 := n0_; have HK := n1_; have HB := n2_; have HI0 := n3_; clear n0_ n1_ n2_ n3_; (try clear hb); (try clear hb2); (try clear hk); (try clear hi)) | ((with_reducible refine gate_callee (f := 118) rfl ?_); refine goesL_ (some 13) rfl rfl Try.func118 (by kernel_rfl) rfl #[.pointer (some ⟨g, 0, none⟩), .int .i64 9] rfl zm ?_; (with_reducible refine (spec_l01Next.calls g s0_0 t678 t679 9 t680 t681 t682 w0 _ ?side1 ?side2 A4.out).mono ?_); (case side1 => repeat (first | (with_reducible first | exact HI0.out | apply IsS132.alloc | apply IsS132.drewN | apply IsS132.drew | apply IsS132.set_1 | apply IsS132.set_2) | exact HI0.out)); (case side2 => repeat (first | (with_reducible first | exact HB.out | apply below_alloc | apply pw_below_drewN | apply below_drew1 | refine below_set ?_ (IsS132.ge HI0.out)) | exact HB.out)); rintro e w78 ⟨rfl, hi, hb, hk⟩; refine ⟨_, rfl, ?_⟩; have n0_ := aM (Kd.R_mono (Kd.R_keep (IsS132.apart (show IsS132 w0 _ g s0_0 t678 t679 from by repeat (first | (with_reducible first | exact HI0.out | apply IsS132.alloc | apply IsS132.drewN | apply IsS132.drew | apply IsS132.set_1 | apply IsS132.set_2) | exact HI0.out)) (mR_ HO674.out) (by decide)) hk (fun _ h => h.2)) (fun _ h => h.1)); have n1_ := aM (KeepBut.trans (by repeat (first | (with_reducible first | exact HK.out | apply KeepBut.set_ | apply keep_drewN | apply keep_drew | apply keep_alloc) | exact HK.out)) hk (.inl rfl)); have n2_ := aM (hb); have n3_ := aM (hi); clear HO674; clear HK; clear HB; clear HI0; have HO674 := n0_; have HK := n1_; have HB := n2_; have HI0 := n3_; clear n0_ n1_ n2_ n3_; (try clear hb); (try clear hb2); (try clear hk); (try clear hi); obtain ⟨Ao79, co79, eo79⟩ := Kd.R_slice HO674.out; subst eo79) | ((with_reducible refine gate_callee (f := 152) rfl ?_); refine goesL_ (some 15) rfl rfl Try.func152 (by kernel_rfl) rfl #[.slice Ao79 t672.length co79, .int .i64 (wrap64 (t677 - 4)), .int .i64 (wrap64 (t680 - 4))] rfl zm ?_; (with_reducible refine (spec_l02Move.calls k _ _ t672 (wrap64 (t677 - 4)) (wrap64 (t680 - 4)) t683 _ ?side1 ?side2 A5.out).mono ?_); (case side1 => repeat (first | exact (Kd.R_reads' HO674.out).2.2 | (with_reducible refine Kd.C_alloc ?_ _) | (with_reducible refine Kd.C_drewN ?_ _) | (with_reducible refine Kd.C_drew ?_))); (case side2 => exact (Kd.R_reads' HO674.out).2.1); rintro e w80 ⟨v684, rfl, ho0, hb⟩; refine ⟨_, rfl, ?_⟩; have n0_ := aM (Kd.R_elder' (mR_ HO674.out) (Kd.R_base ho0) hb); have n1_ := aM (Kd.R_lower (Kd.R_new' ho0 (Kd.R_lt (mR_ HO674.out))) (keep_size (w := w) (g := g) (row := none) (by repeat (first | (with_reducible first | exact HK.out | apply KeepBut.set_ | apply keep_drewN | apply keep_drew | apply keep_alloc) | exact HK.out)))); have n2_ := aM (IsS132.below (by repeat (first | (with_reducible first | exact HI0.out | apply IsS132.alloc | apply IsS132.drewN | apply IsS132.drew | apply IsS132.set_1 | apply IsS132.set_2) | exact HI0.out)) hb); have n3_ := aM (KeepBut.trans (by repeat (first | (with_reducible first | exact HK.out | apply KeepBut.set_ | apply keep_drewN | apply keep_drew | apply keep_alloc) | exact HK.out)) (KeepBut.of_below hb g none) (.inl rfl)); have n4_ := aM (below_step (by repeat (first | (with_reducible first | exact HB.out | apply below_alloc | apply pw_below_drewN | apply below_drew1 | refine below_set ?_ (IsS132.ge HI0.out)) | exact HB.out)) hb); clear HO674; clear HI0; clear HK; clear HB; have HO674 := n0_; have HO685 := n1_; have HI0 := n2_; have HK := n3_; have HB := n4_; clear n0_ n1_ n2_ n3_ n4_; (try clear hb); (try clear hb2); (try clear hk); (try clear hi); (try clear ho0); obtain ⟨Ao81, co81, eo81⟩ := Kd.R_slice HO685.out; subst eo81) | ((with_reducible refine gate_callee (f := 118) rfl ?_); refine goesL_ (some 19) rfl rfl Try.func118 (by kernel_rfl) rfl #[.pointer (some ⟨g, 0, none⟩), .int .i64 (t683.length : Int)] rfl zm ?_; (with_reducible refine (spec_l01Next.calls g s0_0 t681 t682 (t683.length : Int) t686 t687 t688 w0 _ ?side1 ?side2 A6.out).mono ?_); (case side1 => repeat (first | (with_reducible first | exact HI0.out | apply IsS132.alloc | apply IsS132.drewN | apply IsS132.drew | apply IsS132.set_1 | apply IsS132.set_2) | exact HI0.out)); (case side2 => repeat (first | (with_reducible first | exact HB.out | apply below_alloc | apply pw_below_drewN | apply below_drew1 | refine below_set ?_ (IsS132.ge HI0.out)) | exact HB.out)); rintro e w82 ⟨rfl, hi, hb, hk⟩; refine ⟨_, rfl, ?_⟩; have n0_ := aM (Kd.R_mono (Kd.R_keep (IsS132.apart (show IsS132 w0 _ g s0_0 t681 t682 from by repeat (first | (with_reducible first | exact HI0.out | apply IsS132.alloc | apply IsS132.drewN | apply IsS132.drew | apply IsS132.set_1 | apply IsS132.set_2) | exact HI0.out)) (mR_ HO674.out) (by decide)) hk (fun _ h => h.2)) (fun _ h => h.1)); have n1_ := aM (Kd.R_mono (Kd.R_keep (IsS132.apart (show IsS132 w0 _ g s0_0 t681 t682 from by repeat (first | (with_reducible first | exact HI0.out | apply IsS132.alloc | apply IsS132.drewN | apply IsS132.drew | apply IsS132.set_1 | apply IsS132.set_2) | exact HI0.out)) (mR_ HO685.out) (by decide)) hk (fun _ h => h.2)) (fun _ h => h.1)); have n2_ := aM (KeepBut.trans (by repeat (first | (with_reducible first | exact HK.out | apply KeepBut.set_ | apply keep_drewN | apply keep_drew | apply keep_alloc) | exact HK.out)) hk (.inl rfl)); have n3_ := aM (hb); have n4_ := aM (hi); clear HO674; clear HO685; clear HK; clear HB; clear HI0; have HO674 := n0_; have HO685 := n1_; have HK := n2_; have HB := n3_; have HI0 := n4_; clear n0_ n1_ n2_ n3_ n4_; (try clear hb); (try clear hb2); (try clear hk); (try clear hi)) | ((with_reducible refine gate_callee (f := 118) rfl ?_); refine goesL_ (some 21) rfl rfl Try.func118 (by kernel_rfl) rfl #[.pointer (some ⟨g, 0, none⟩), .int .i64 24] rfl zm ?_; (with_reducible refine (spec_l01Next.calls g s0_0 t687 t688 24 t689 t690 t691 w0 _ ?side1 ?side2 A7.out).mono ?_); (case side1 => repeat (first | (with_reducible first | exact HI0.out | apply IsS132.alloc | apply IsS132.drewN | apply IsS132.drew | apply IsS132.set_1 | apply IsS132.set_2) | exact HI0.out)); (case side2 => repeat (first | (with_reducible first | exact HB.out | apply below_alloc | apply pw_below_drewN | apply below_drew1 | refine below_set ?_ (IsS132.ge HI0.out)) | exact HB.out)); rintro e w83 ⟨rfl, hi, hb, hk⟩; refine ⟨_, rfl, ?_⟩; have n0_ := aM (Kd.R_mono (Kd.R_keep (IsS132.apart (show IsS132 w0 _ g s0_0 t687 t688 from by repeat (first | (with_reducible first | exact HI0.out | apply IsS132.alloc | apply IsS132.drewN | apply IsS132.drew | apply IsS132.set_1 | apply IsS132.set_2) | exact HI0.out)) (mR_ HO674.out) (by decide)) hk (fun _ h => h.2)) (fun _ h => h.1)); have n1_ := aM (Kd.R_mono (Kd.R_keep (IsS132.apart (show IsS132 w0 _ g s0_0 t687 t688 from by repeat (first | (with_reducible first | exact HI0.out | apply IsS132.alloc | apply IsS132.drewN | apply IsS132.drew | apply IsS132.set_1 | apply IsS132.set_2) | exact HI0.out)) (mR_ HO685.out) (by decide)) hk (fun _ h => h.2)) (fun _ h => h.1)); have n2_ := aM (KeepBut.trans (by repeat (first | (with_reducible first | exact HK.out | apply KeepBut.set_ | apply keep_drewN | apply keep_drew | apply keep_alloc) | exact HK.out)) hk (.inl rfl)); have n3_ := aM (hb); have n4_ := aM (hi); clear HO674; clear HO685; clear HK; clear HB; clear HI0; have HO674 := n0_; have HO685 := n1_; have HK := n2_; have HB := n3_; have HI0 := n4_; clear n0_ n1_ n2_ n3_ n4_; (try clear hb); (try clear hb2); (try clear hk); (try clear hi)))
  have n0_ := aM (Kd.R_drew HO674.out)
  have n1_ := aM (Kd.R_drew HO685.out)
  have n2_ := aM (IsS132.drew HI0.out)
  have n3_ := aM (keep_drew HK.out)
  have n4_ := aM (below_drew1 HB.out)
  clear HO674
  clear HO685
  clear HI0
  clear HK
  clear HB
  have HO674 := n0_
  have HO685 := n1_
  have HI0 := n2_
  have HK := n3_
  have HB := n4_
  clear n0_ n1_ n2_ n3_ n4_
  have p716 : 0 ≤ (0 : Int) := (by omega)
  have q716 : 0 < (t683.length : Int) := of_decide_eq_true za
  obtain ⟨ad716, e716, hx716_0, hx716_1⟩ := at_T59 (Kd.R_reads' HO685.out).2.2 0 p716 q716
  cases e716
  have qi716 : (0 < t683.length) = True := eq_true (by omega)
  (try rw [show ((0 : Int)).toNat = 0 from rfl] at hx716_0)
  (try rw [show 0 * 2 = 0 from rfl] at hx716_0)
  (try rw [Addr.add_zero'] at hx716_0)
  (try rw [show ((0 : Int)).toNat = 0 from rfl] at hx716_1)
  (try rw [show 0 * 2 = 0 from rfl] at hx716_1)
  (try rw [Addr.add_zero'] at hx716_1)
  replace p716 := eq_true p716
  replace q716 := eq_true q716
  have p717 : 0 ≤ ((ji72) : Int) := of_decide_eq_true za
  have q717 : (ji72) < (t683.length : Int) := of_decide_eq_true za
  obtain ⟨ad717, e717, hx717_0, hx717_1⟩ := at_T59 (Kd.R_reads' HO685.out).2.2 (ji72) p717 q717
  obtain rfl : ad716 = ad717 := (by injection e717)
  replace p717 := eq_true p717
  replace q717 := eq_true q717
  refine start_ (n := 18) (S := fun w' => w'.cell? ad716 = some (.int .i64 ((rd_T59 t683 0).f0)) ∧ w'.cell? ⟨ad716.block, ad716.off + 1, none⟩ = some (.int .i64 ((rd_T59 t683 0).f1)) ∧ w'.cell? (ad716.add (((ji72)).toNat * 2)) = some (.int .i64 ((rd_T59 t683 (ji72)).f0)) ∧ w'.cell? ⟨(ad716.add (((ji72)).toNat * 2)).block, (ad716.add (((ji72)).toNat * 2)).off + 1, none⟩ = some (.int .i64 ((rd_T59 t683 (ji72)).f1))) (ds := [15, 16]) #[false, false, false, false, false, false, false, false, false, false, false, false, false, false, false, false, false, false] (by kernel_rfl) rfl rfl ⟨hx716_0, hx716_1, hx717_0, hx717_1⟩ (fun hHeld => ?_); refine with_tabW spec_l02Draw.tab20 spec_l02Draw.bits20 (fun HT_ HW_ => ?_)
  generalize w83.drew = w84 at HO674 HO685 HI0 HK HB hx716_0 hx716_1 hx717_0 hx717_1 hHeld ⊢
  refine pure_ (i := 0) (N := some 65) (v := ?_) (a' := ?_) #[true, false, false, false, false, false, false, false, false, false, false, false, false, false, false, false, false, false] rfl rfl zz (fun _ _ _ h => h) (Or.inl ⟨by rfl, ?_⟩) ?_ ?_
  rotate_left
  ·intro w'
   go_simp
   with_reducible rfl
  rotate_left
  ·simp only [Act.put, xA, xB, xC, i64_w, i32_w]
   rfl
  refine pure_ (i := 1) (N := some 66) (v := ?_) (a' := ?_) #[true, true, false, false, false, false, false, false, false, false, false, false, false, false, false, false, false, false] rfl rfl zz (fun _ _ _ h => h) (Or.inl ⟨by rfl, ?_⟩) ?_ ?_
  rotate_left
  ·intro w'
   go_simp
   with_reducible rfl
  rotate_left
  ·simp only [Act.put, xA, xB, xC, i64_w, i32_w]
   rfl
  refine pure_ (i := 2) (N := some 67) (v := ?_) (a' := ?_) #[true, true, true, false, false, false, false, false, false, false, false, false, false, false, false, false, false, false] rfl rfl zz (fun _ _ _ h => h) (Or.inl ⟨by rfl, ?_⟩) ?_ ?_
  rotate_left
  ·intro w'
   go_simp
   with_reducible rfl
  rotate_left
  ·simp only [Act.put, xA, xB, xC, i64_w, i32_w]
   rfl
  refine pure_ (i := 3) (N := some 68) (v := ?_) (a' := ?_) #[true, true, true, true, false, false, false, false, false, false, false, false, false, false, false, false, false, false] rfl rfl zz (fun _ _ _ h => h) (Or.inl ⟨by rfl, ?_⟩) ?_ ?_
  rotate_left
  ·intro w'
   go_simp
   with_reducible rfl
  rotate_left
  ·simp only [Act.put, xA, xB, xC, i64_w, i32_w]
   rfl
  refine pure_ (i := 6) (N := some 71) (v := ?_) (a' := ?_) #[true, true, true, true, false, false, true, false, false, false, false, false, false, false, false, false, false, false] rfl rfl zz (fun _ _ _ h => h) (Or.inl ⟨by rfl, ?_⟩) ?_ ?_
  rotate_left
  ·intro w'
   go_simp
   with_reducible rfl
  rotate_left
  ·simp only [Act.put, xA, xB, xC, i64_w, i32_w]
   rfl
  refine pure_ (i := 7) (N := some 72) (v := ?_) (a' := ?_) #[true, true, true, true, false, false, true, true, false, false, false, false, false, false, false, false, false, false] rfl rfl zz (fun _ _ _ h => h) (Or.inl ⟨by rfl, ?_⟩) ?_ ?_
  rotate_left
  ·intro w'
   go_simp
   with_reducible rfl
  rotate_left
  ·simp only [Act.put, xA, xB, xC, i64_w, i32_w]
   rfl
  refine pure_ (i := 8) (N := some 73) (v := ?_) (a' := ?_) #[true, true, true, true, false, false, true, true, true, false, false, false, false, false, false, false, false, false] rfl rfl zz (fun _ _ _ h => h) (Or.inl ⟨by rfl, ?_⟩) ?_ ?_
  rotate_left
  ·intro w'
   go_simp
   with_reducible rfl
  rotate_left
  ·simp only [Act.put, xA, xB, xC, i64_w, i32_w]
   rfl
  refine pure_ (i := 9) (N := some 74) (v := ?_) (a' := ?_) #[true, true, true, true, false, false, true, true, true, true, false, false, false, false, false, false, false, false] rfl rfl zz (fun _ _ _ h => h) (Or.inl ⟨by rfl, ?_⟩) ?_ ?_
  rotate_left
  ·intro w'
   go_simp
   with_reducible rfl
  rotate_left
  ·simp only [Act.put, xA, xB, xC, i64_w, i32_w]
   rfl
  refine pure_ (i := 10) (N := some 75) (v := ?_) (a' := ?_) #[true, true, true, true, false, false, true, true, true, true, true, false, false, false, false, false, false, false] rfl rfl zz (fun _ _ _ h => h) (Or.inl ⟨by rfl, ?_⟩) ?_ ?_
  rotate_left
  ·intro w'
   go_simp
   with_reducible rfl
  rotate_left
  ·simp only [Act.put, xA, xB, xC, i64_w, i32_w]
   rfl
  refine pure_ (i := 11) (N := some 76) (v := ?_) (a' := ?_) #[true, true, true, true, false, false, true, true, true, true, true, true, false, false, false, false, false, false] rfl rfl zz (fun _ _ _ h => h) (Or.inl ⟨by rfl, ?_⟩) ?_ ?_
  rotate_left
  ·intro w'
   go_simp
   with_reducible rfl
  rotate_left
  ·simp only [Act.put, xA, xB, xC, i64_w, i32_w]
   rfl
  refine take_ (i := 4) (N := some 69) (v := ?_) (a' := ?_) #[true, true, true, true, true, false, true, true, true, true, true, true, false, false, false, false, false, false] rfl rfl (take_ofW HT_.out HW_.out (by kernel_rfl)) (fun _ _ _ h => h) (Or.inl ⟨by rfl, ?_⟩) hHeld ?_ ?_
  rotate_left
  ·rintro w' ⟨s0, s1, s2, s3⟩
   go_simp
   with_reducible rfl
  rotate_left
  ·simp only [Act.put, xA, xB, xC, i64_w, i32_w]
   rfl
  refine pure_ (i := 5) (N := some 70) (v := ?_) (a' := ?_) #[true, true, true, true, true, true, true, true, true, true, true, true, false, false, false, false, false, false] rfl rfl zz (fun _ _ _ h => h) (Or.inl ⟨by rfl, ?_⟩) ?_ ?_
  rotate_left
  ·intro w'
   go_simp
   with_reducible rfl
  rotate_left
  ·simp only [Act.put, xA, xB, xC, i64_w, i32_w]
   rfl
  refine take_ (i := 12) (N := some 77) (v := ?_) (a' := ?_) #[true, true, true, true, true, true, true, true, true, true, true, true, true, false, false, false, false, false] rfl rfl (take_ofW HT_.out HW_.out (by kernel_rfl)) (fun _ _ _ h => h) (Or.inl ⟨by rfl, ?_⟩) hHeld ?_ ?_
  rotate_left
  ·rintro w' ⟨s0, s1, s2, s3⟩
   go_simp
   with_reducible rfl
  rotate_left
  ·simp only [Act.put, xA, xB, xC, i64_w, i32_w]
   rfl
  refine pure_ (i := 13) (N := some 78) (v := ?_) (a' := ?_) #[true, true, true, true, true, true, true, true, true, true, true, true, true, true, false, false, false, false] rfl rfl zz (fun _ _ _ h => h) (Or.inl ⟨by rfl, ?_⟩) ?_ ?_
  rotate_left
  ·intro w'
   go_simp
   with_reducible rfl
  rotate_left
  ·simp only [Act.put, xA, xB, xC, i64_w, i32_w]
   rfl
  refine pure_ (i := 14) (N := some 79) (v := ?_) (a' := ?_) #[true, true, true, true, true, true, true, true, true, true, true, true, true, true, true, false, false, false] rfl rfl zz (fun _ _ _ h => h) (Or.inl ⟨by rfl, ?_⟩) ?_ ?_
  rotate_left
  ·intro w'
   go_simp
   with_reducible rfl
  rotate_left
  ·simp only [Act.put, xA, xB, xC, i64_w, i32_w]
   rfl
  refine last_ (i := 15) (N := some 80) #[true, true, true, true, true, true, true, true, true, true, true, true, true, true, true, true, false, false] rfl rfl (one_of HT_.out (by kernel_rfl)) (by decide) (fun K hK => ?_)
  refine value_ (w1 := ?_) (v := ?_) (by rfl) rfl ?_ ?_
  rotate_left 2
  ·go_simp
   constructor
   ·rfl
   ·rfl
  refine hK.out _ _ ?_
  clear hK K
  refine norm_ (a' := ?_) ?_ ?_
  rotate_left
  ·show Act.put _ (some 80) _ = _
   simp only [Act.put, xA, xB, xC, i64_w, i32_w]
   rfl
  refine last_ (i := 16) (N := some 81) #[true, true, true, true, true, true, true, true, true, true, true, true, true, true, true, true, true, false] rfl rfl (one_of HT_.out (by kernel_rfl)) (by decide) (fun K hK => ?_)
  refine Kd.R_append_step k59 w.heap.size (by rfl) (.tmp 65) (.tmp 80) 43 59 (.agg #[(.int .i64 0), (.int .i64 0)]) 16 rfl Try.underlying43 info59 rfl (by decide) (by omega) (.slice (some ad716) t683.length co81) t683 (⟨wrap64 (((rd_T59 t683 0).f0) + 3), wrap64 (((rd_T59 t683 (ji72)).f1) + 2)⟩ : S59) [.int .i64 (wrap64 (((rd_T59 t683 0).f0) + 3)), .int .i64 (wrap64 (((rd_T59 t683 (ji72)).f1) + 2))] (fun k_ => some k_ ≠ (.slice Ao79 t672.length co79 : Value).ownBlock) (fun _ => False) rfl rfl ?aP (fun _ hk => hk.elim) ?aF ?aO (Below.refl _ _) ?aS ?aL ?_
  (case aP => exact k59_mkM _ _ _ (⟨wrap64 (((rd_T59 t683 0).f0) + 3), wrap64 (((rd_T59 t683 (ji72)).f1) + 2)⟩ : S59))
  (case aF => exact (fun k_ hk => Kd.fresh' (Kd.R_lt (mR_ HO674.out)) k_ hk))
  (case aO => exact (by (with_reducible repeat (first | apply Kd.R_alloc | apply Kd.R_drewN | apply Kd.R_drew)); exact Kd.R_mono HO685.out (fun _ hk => hk.2)))
  (case aS => exact (keep_size (w := w) (g := g) (row := none) (by repeat (first | (with_reducible first | exact HK.out | apply KeepBut.set_ | apply keep_drewN | apply keep_drew | apply keep_alloc) | exact HK.out))))
  (case aL => have := LMc75.out; omega)
  intro v719 w85 ho hb hg hat
  rw [← Ny718.out] at ho
  have n0_ := aM (IsS132.grown (by repeat (first | (with_reducible first | exact HI0.out | apply IsS132.alloc | apply IsS132.drewN | apply IsS132.drew | apply IsS132.set_1 | apply IsS132.set_2) | exact HI0.out)) hg (IsS132.own_ne HI0.out HO685.out (by decide)))
  have n1_ := aM (Kd.R_after (ok := (fun _ => True)) (mR_ HO674.out) hg hat)
  have n2_ := aM (below_weaken (by repeat (first | (with_reducible first | exact HB.out | apply below_alloc | apply pw_below_drewN | apply below_drew1 | refine below_set ?_ (IsS132.ge HI0.out)) | exact HB.out)) HL.out hb)
  have n3_ := aM (KeepBut.trans (by repeat (first | (with_reducible first | exact HK.out | apply KeepBut.set_ | apply keep_drewN | apply keep_drew | apply keep_alloc) | exact HK.out)) (KeepBut.of_grown hg g) (Kd.R_base2 HO685.out))
  have n4_ := aM (ho)
  clear HI0
  clear HO674
  clear HB
  clear HK
  clear HO685
  have HI0 := n0_
  have HO674 := n1_
  have HB := n2_
  have HK := n3_
  have HO720 := n4_
  clear n0_ n1_ n2_ n3_ n4_
  clear ho hb hg hat
  refine hK.out _ _ ?_
  clear hK K
  refine norm_ (a' := ?_) ?_ ?_
  rotate_left
  ·show Act.put _ (some 81) _ = _
   simp only [Act.put, xA, xB, xC, i64_w, i32_w]
   rfl
  refine pure_ (i := 17) (N := some 2) (v := ?_) (a' := ?_) #[true, true, true, true, true, true, true, true, true, true, true, true, true, true, true, true, true, true] rfl rfl zz (fun _ _ _ h => h) (Or.inl ⟨by rfl, ?_⟩) ?_ ?_
  rotate_left
  ·intro w'
   go_simp
   with_reducible rfl
  rotate_left
  ·simp only [Act.put, xA, xB, xC, i64_w, i32_w]
   rfl
  refine done_ (done_of HT_.out (by kernel_rfl)) ?_
  try go_wp2
  go_ret
  exact ⟨_, by first | rfl | (simp [errW_none, errW_some] <;> rfl) | (simp only [← hji72]; first | rfl | (simp [errW_none, errW_some] <;> rfl)) | (simp [*, errW_none, errW_some] <;> rfl), by (with_reducible repeat (first | apply Kd.R_alloc | apply Kd.R_drewN | apply Kd.R_drew)); exact Kd.R_mono HO720.out (fun _ hk => trivial), by repeat (first | (with_reducible first | exact HI0.out | apply IsS132.alloc | apply IsS132.drewN | apply IsS132.drew | apply IsS132.set_1 | apply IsS132.set_2) | exact HI0.out), by repeat (first | (with_reducible first | exact HB.out | apply below_alloc | apply pw_below_drewN | apply below_drew1 | refine below_set ?_ (IsS132.ge HI0.out)) | exact HB.out), by repeat (first | (with_reducible first | exact HK.out | apply KeepBut.set_ | apply keep_drewN | apply keep_drew | apply keep_alloc) | exact HK.out)⟩
 rw [if_neg c70] at H
 have c70b0 : (t689 == 4) = false := beq_eq_false_iff_ne.mpr c70
 have c70b1 : (t689 != 4) = true := bne_iff_ne.mpr c70
 by_cases c86 : t689 = 5
 rotate_left
 ·rw [if_neg c86] at H
  have c86b0 : (t689 == 5) = false := beq_eq_false_iff_ne.mpr c86
  have c86b1 : (t689 != 5) = true := bne_iff_ne.mpr c86
  simp only [Option.some.injEq, Prod.mk.injEq] at H
  obtain ⟨rfl, rfl, rfl⟩ := H
  go_enter Try.func119, Try.ntmps119
  go_wp2_with (first | ((with_reducible refine gate_callee (f := 149) rfl ?_); refine goesL_ (some 8) rfl rfl Try.func149 (by kernel_rfl) rfl #[.pointer (some ⟨g, 0, none⟩), .int .i64 8] rfl zm ?_; (with_reducible refine (spec_l02DrawPoly.calls k g s0_0 s0_1 s0_2 8 t672 t675 t676 w0 _ ?side1 ?side2 A2.out).mono ?_); (case side1 => repeat (first | (with_reducible first | exact HI0.out | apply IsS132.alloc | apply IsS132.drewN | apply IsS132.drew | apply IsS132.set_1 | apply IsS132.set_2) | exact HI0.out)); (case side2 => repeat (first | (with_reducible first | exact HB.out | apply below_alloc | apply pw_below_drewN | apply below_drew1 | refine below_set ?_ (IsS132.ge HI0.out)) | exact HB.out)); rintro e w102 ⟨v673, rfl, ho0, hi, hb, hk⟩; refine ⟨_, rfl, ?_⟩; have n0_ := aM (Kd.R_lower ho0 (keep_size (w := w) (g := g) (row := none) (by repeat (first | (with_reducible first | exact HK.out | apply KeepBut.set_ | apply keep_drewN | apply keep_drew | apply keep_alloc) | exact HK.out)))); have n1_ := aM (KeepBut.trans (by repeat (first | (with_reducible first | exact HK.out | apply KeepBut.set_ | apply keep_drewN | apply keep_drew | apply keep_alloc) | exact HK.out)) hk (.inl rfl)); have n2_ := aM (hb); have n3_ := aM (hi); clear HK; clear HB; clear HI0; have HO674 := n0_; have HK := n1_; have HB := n2_; have HI0 := n3_; clear n0_ n1_ n2_ n3_; (try clear hb); (try clear hb2); (try clear hk); (try clear hi); (try clear ho0)) | ((with_reducible refine gate_callee (f := 118) rfl ?_); refine goesL_ (some 10) rfl rfl Try.func118 (by kernel_rfl) rfl #[.pointer (some ⟨g, 0, none⟩), .int .i64 9] rfl zm ?_; (with_reducible refine (spec_l01Next.calls g s0_0 t675 t676 9 t677 t678 t679 w0 _ ?side1 ?side2 A3.out).mono ?_); (case side1 => repeat (first | (with_reducible first | exact HI0.out | apply IsS132.alloc | apply IsS132.drewN | apply IsS132.drew | apply IsS132.set_1 | apply IsS132.set_2) | exact HI0.out)); (case side2 => repeat (first | (with_reducible first | exact HB.out | apply below_alloc | apply pw_below_drewN | apply below_drew1 | refine below_set ?_ (IsS132.ge HI0.out)) | exact HB.out)); rintro e w103 ⟨rfl, hi, hb, hk⟩; refine ⟨_, rfl, ?_⟩; have n0_ := aM (Kd.R_mono (Kd.R_keep (IsS132.apart (show IsS132 w0 _ g s0_0 t675 t676 from by repeat (first | (with_reducible first | exact HI0.out | apply IsS132.alloc | apply IsS132.drewN | apply IsS132.drew | apply IsS132.set_1 | apply IsS132.set_2) | exact HI0.out)) (mR_ HO674.out) (by decide)) hk (fun _ h => h.2)) (fun _ h => h.1)); have n1_ := aM (KeepBut.trans (by repeat (first | (with_reducible first | exact HK.out | apply KeepBut.set_ | apply keep_drewN | apply keep_drew | apply keep_alloc) | exact HK.out)) hk (.inl rfl)); have n2_ := aM (hb); have n3_ := aM (hi); clear HO674; clear HK; clear HB; clear HI0; have HO674 := n0_; have HK := n1_; have HB := n2_; have HI0 := n3_; clear n0_ n1_ n2_ n3_; (try clear hb); (try clear hb2); (try clear hk); (try clear hi)) | ((with_reducible refine gate_callee (f := 118) rfl ?_); refine goesL_ (some 13) rfl rfl Try.func118 (by kernel_rfl) rfl #[.pointer (some ⟨g, 0, none⟩), .int .i64 9] rfl zm ?_; (with_reducible refine (spec_l01Next.calls g s0_0 t678 t679 9 t680 t681 t682 w0 _ ?side1 ?side2 A4.out).mono ?_); (case side1 => repeat (first | (with_reducible first | exact HI0.out | apply IsS132.alloc | apply IsS132.drewN | apply IsS132.drew | apply IsS132.set_1 | apply IsS132.set_2) | exact HI0.out)); (case side2 => repeat (first | (with_reducible first | exact HB.out | apply below_alloc | apply pw_below_drewN | apply below_drew1 | refine below_set ?_ (IsS132.ge HI0.out)) | exact HB.out)); rintro e w104 ⟨rfl, hi, hb, hk⟩; refine ⟨_, rfl, ?_⟩; have n0_ := aM (Kd.R_mono (Kd.R_keep (IsS132.apart (show IsS132 w0 _ g s0_0 t678 t679 from by repeat (first | (with_reducible first | exact HI0.out | apply IsS132.alloc | apply IsS132.drewN | apply IsS132.drew | apply IsS132.set_1 | apply IsS132.set_2) | exact HI0.out)) (mR_ HO674.out) (by decide)) hk (fun _ h => h.2)) (fun _ h => h.1)); have n1_ := aM (KeepBut.trans (by repeat (first | (with_reducible first | exact HK.out | apply KeepBut.set_ | apply keep_drewN | apply keep_drew | apply keep_alloc) | exact HK.out)) hk (.inl rfl)); have n2_ := aM (hb); have n3_ := aM (hi); clear HO674; clear HK; clear HB; clear HI0; have HO674 := n0_; have HK := n1_; have HB := n2_; have HI0 := n3_; clear n0_ n1_ n2_ n3_; (try clear hb); (try clear hb2); (try clear hk); (try clear hi); obtain ⟨Ao105, co105, eo105⟩ := Kd.R_slice HO674.out; subst eo105) | ((with_reducible refine gate_callee (f := 152) rfl ?_); refine goesL_ (some 15) rfl rfl Try.func152 (by kernel_rfl) rfl #[.slice Ao105 t672.length co105, .int .i64 (wrap64 (t677 - 4)), .int .i64 (wrap64 (t680 - 4))] rfl zm ?_; (with_reducible refine (spec_l02Move.calls k _ _ t672 (wrap64 (t677 - 4)) (wrap64 (t680 - 4)) t683 _ ?side1 ?side2 A5.out).mono ?_); (case side1 => repeat (first | exact (Kd.R_reads' HO674.out).2.2 | (with_reducible refine Kd.C_alloc ?_ _) | (with_reducible refine Kd.C_drewN ?_ _) | (with_reducible refine Kd.C_drew ?_))); (case side2 => exact (Kd.R_reads' HO674.out).2.1); rintro e w106 ⟨v684, rfl, ho0, hb⟩; refine ⟨_, rfl, ?_⟩; have n0_ := aM (Kd.R_elder' (mR_ HO674.out) (Kd.R_base ho0) hb); have n1_ := aM (Kd.R_lower (Kd.R_new' ho0 (Kd.R_lt (mR_ HO674.out))) (keep_size (w := w) (g := g) (row := none) (by repeat (first | (with_reducible first | exact HK.out | apply KeepBut.set_ | apply keep_drewN | apply keep_drew | apply keep_alloc) | exact HK.out)))); have n2_ := aM (IsS132.below (by repeat (first | (with_reducible first | exact HI0.out | apply IsS132.alloc | apply IsS132.drewN | apply IsS132.drew | apply IsS132.set_1 | apply IsS132.set_2) | exact HI0.out)) hb); have n3_ := aM (KeepBut.trans (by repeat (first | (with_reducible first | exact HK.out | apply KeepBut.set_ | apply keep_drewN | apply keep_drew | apply keep_alloc) | exact HK.out)) (KeepBut.of_below hb g none) (.inl rfl)); have n4_ := aM (below_step (by repeat (first | (with_reducible first | exact HB.out | apply below_alloc | apply pw_below_drewN | apply below_drew1 | refine below_set ?_ (IsS132.ge HI0.out)) | exact HB.out)) hb); clear HO674; clear HI0; clear HK; clear HB; have HO674 := n0_; have HO685 := n1_; have HI0 := n2_; have HK := n3_; have HB := n4_; clear n0_ n1_ n2_ n3_ n4_; (try clear hb); (try clear hb2); (try clear hk); (try clear hi); (try clear ho0); obtain ⟨Ao107, co107, eo107⟩ := Kd.R_slice HO685.out; subst eo107) | ((with_reducible refine gate_callee (f := 118) rfl ?_); refine goesL_ (some 19) rfl rfl Try.func118 (by kernel_rfl) rfl #[.pointer (some ⟨g, 0, none⟩), .int .i64 (t683.length : Int)] rfl zm ?_; (with_reducible refine (spec_l01Next.calls g s0_0 t681 t682 (t683.length : Int) t686 t687 t688 w0 _ ?side1 ?side2 A6.out).mono ?_); (case side1 => repeat (first | (with_reducible first | exact HI0.out | apply IsS132.alloc | apply IsS132.drewN | apply IsS132.drew | apply IsS132.set_1 | apply IsS132.set_2) | exact HI0.out)); (case side2 => repeat (first | (with_reducible first | exact HB.out | apply below_alloc | apply pw_below_drewN | apply below_drew1 | refine below_set ?_ (IsS132.ge HI0.out)) | exact HB.out)); rintro e w108 ⟨rfl, hi, hb, hk⟩; refine ⟨_, rfl, ?_⟩; have n0_ := aM (Kd.R_mono (Kd.R_keep (IsS132.apart (show IsS132 w0 _ g s0_0 t681 t682 from by repeat (first | (with_reducible first | exact HI0.out | apply IsS132.alloc | apply IsS132.drewN | apply IsS132.drew | apply IsS132.set_1 | apply IsS132.set_2) | exact HI0.out)) (mR_ HO674.out) (by decide)) hk (fun _ h => h.2)) (fun _ h => h.1)); have n1_ := aM (Kd.R_mono (Kd.R_keep (IsS132.apart (show IsS132 w0 _ g s0_0 t681 t682 from by repeat (first | (with_reducible first | exact HI0.out | apply IsS132.alloc | apply IsS132.drewN | apply IsS132.drew | apply IsS132.set_1 | apply IsS132.set_2) | exact HI0.out)) (mR_ HO685.out) (by decide)) hk (fun _ h => h.2)) (fun _ h => h.1)); have n2_ := aM (KeepBut.trans (by repeat (first | (with_reducible first | exact HK.out | apply KeepBut.set_ | apply keep_drewN | apply keep_drew | apply keep_alloc) | exact HK.out)) hk (.inl rfl)); have n3_ := aM (hb); have n4_ := aM (hi); clear HO674; clear HO685; clear HK; clear HB; clear HI0; have HO674 := n0_; have HO685 := n1_; have HK := n2_; have HB := n3_; have HI0 := n4_; clear n0_ n1_ n2_ n3_ n4_; (try clear hb); (try clear hb2); (try clear hk); (try clear hi)) | ((with_reducible refine gate_callee (f := 118) rfl ?_); refine goesL_ (some 21) rfl rfl Try.func118 (by kernel_rfl) rfl #[.pointer (some ⟨g, 0, none⟩), .int .i64 24] rfl zm ?_; (with_reducible refine (spec_l01Next.calls g s0_0 t687 t688 24 t689 t690 t691 w0 _ ?side1 ?side2 A7.out).mono ?_); (case side1 => repeat (first | (with_reducible first | exact HI0.out | apply IsS132.alloc | apply IsS132.drewN | apply IsS132.drew | apply IsS132.set_1 | apply IsS132.set_2) | exact HI0.out)); (case side2 => repeat (first | (with_reducible first | exact HB.out | apply below_alloc | apply pw_below_drewN | apply below_drew1 | refine below_set ?_ (IsS132.ge HI0.out)) | exact HB.out)); rintro e w109 ⟨rfl, hi, hb, hk⟩; refine ⟨_, rfl, ?_⟩; have n0_ := aM (Kd.R_mono (Kd.R_keep (IsS132.apart (show IsS132 w0 _ g s0_0 t687 t688 from by repeat (first | (with_reducible first | exact HI0.out | apply IsS132.alloc | apply IsS132.drewN | apply IsS132.drew | apply IsS132.set_1 | apply IsS132.set_2) | exact HI0.out)) (mR_ HO674.out) (by decide)) hk (fun _ h => h.2)) (fun _ h => h.1)); have n1_ := aM (Kd.R_mono (Kd.R_keep (IsS132.apart (show IsS132 w0 _ g s0_0 t687 t688 from by repeat (first | (with_reducible first | exact HI0.out | apply IsS132.alloc | apply IsS132.drewN | apply IsS132.drew | apply IsS132.set_1 | apply IsS132.set_2) | exact HI0.out)) (mR_ HO685.out) (by decide)) hk (fun _ h => h.2)) (fun _ h => h.1)); have n2_ := aM (KeepBut.trans (by repeat (first | (with_reducible first | exact HK.out | apply KeepBut.set_ | apply keep_drewN | apply keep_drew | apply keep_alloc) | exact HK.out)) hk (.inl rfl)); have n3_ := aM (hb); have n4_ := aM (hi); clear HO674; clear HO685; clear HK; clear HB; clear HI0; have HO674 := n0_; have HO685 := n1_; have HK := n2_; have HB := n3_; have HI0 := n4_; clear n0_ n1_ n2_ n3_ n4_; (try clear hb); (try clear hb2); (try clear hk); (try clear hi)))
  go_ret
  exact ⟨_, zw, by (with_reducible repeat (first | apply Kd.R_alloc | apply Kd.R_drewN | apply Kd.R_drew)); exact Kd.R_mono HO685.out (fun _ hk => trivial), by repeat (first | (with_reducible first | exact HI0.out | apply IsS132.alloc | apply IsS132.drewN | apply IsS132.drew | apply IsS132.set_1 | apply IsS132.set_2) | exact HI0.out), by repeat (first | (with_reducible first | exact HB.out | apply below_alloc | apply pw_below_drewN | apply below_drew1 | refine below_set ?_ (IsS132.ge HI0.out)) | exact HB.out), by repeat (first | (with_reducible first | exact HK.out | apply KeepBut.set_ | apply keep_drewN | apply keep_drew | apply keep_alloc) | exact HK.out)⟩
 rw [if_pos c86] at H
 have c86b0 : (t689 == 5) = true := beq_iff_eq.mpr c86
 have c86b1 : (t689 != 5) = false := bne_eq_false_iff_eq.mpr c86
 clear c86
 by_cases c87 : 0 < (t683.length : Int)
 rotate_left
 ·rw [if_neg c87] at H
  exact absurd H (by simp)
 rw [if_pos c87] at H
 have c87b0 : decide (0 < (t683.length : Int)) = true := decide_eq_true c87
 have c87b1 : decide (0 < t683.length) = true := decide_eq_true (by omega)
 clear c87
 obtain ⟨ji88, hji88⟩ : ∃ j_ : Int, (wrap64 ((t683.length : Int) - 1)) = j_ := ⟨_, rfl⟩
 replace H : (if 0 ≤ (ji88) then (if (ji88) < (t683.length : Int) then (if t683.length < 8796093022208 then (some ((t683 ++ [(⟨wrap64 (((rd_T59 t683 0).f0) + 3), wrap64 (((rd_T59 t683 (ji88)).f1) + 2)⟩ : S59)]), t690, t691)) else (none)) else (none)) else (none)) = some (r1, r2, r3) := by first | (rw [hji88] at H; exact H) | (simp only [hji88] at H ⊢; exact H)
 (try rw [hji88] at A2)
 (try rw [hji88] at A3)
 (try rw [hji88] at A4)
 (try rw [hji88] at A5)
 (try rw [hji88] at A6)
 (try rw [hji88] at A7)
 have hji88w : (IntKind.i64.wrap ((t683.length : Int) - 1)) = ji88 := (i64_w _).trans hji88
 by_cases c89 : 0 ≤ (ji88)
 rotate_left
 ·rw [if_neg c89] at H
  exact absurd H (by simp)
 rw [if_pos c89] at H
 have c89b0 : decide (0 ≤ (ji88)) = true := decide_eq_true c89
 clear c89
 by_cases c90 : (ji88) < (t683.length : Int)
 rotate_left
 ·rw [if_neg c90] at H
  exact absurd H (by simp)
 rw [if_pos c90] at H
 have c90b0 : decide ((ji88) < (t683.length : Int)) = true := decide_eq_true c90
 clear c90
 by_cases c91 : t683.length < 8796093022208
 rotate_left
 ·rw [if_neg c91] at H
  exact absurd H (by simp)
 rw [if_pos c91] at H
 have LMc91 := aM c91
 clear c91
 obtain ⟨y723, hy723⟩ : ∃ y_ : List (S59), y_ = (t683 ++ [(⟨wrap64 (((rd_T59 t683 0).f0) + 3), wrap64 (((rd_T59 t683 (ji88)).f1) + 2)⟩ : S59)]) := ⟨_, rfl⟩
 replace H : (some (y723, t690, t691)) = some (r1, r2, r3) := zy H hy723
 have Ny723 := aM hy723
 clear hy723
 simp only [Option.some.injEq, Prod.mk.injEq] at H
 obtain ⟨rfl, rfl, rfl⟩ := H
 go_enter Try.func119, Try.ntmps119
 try go_wp2_with (first | ((with_reducible refine gate_callee (f := 149) rfl ?_); refine goesL_ (some 8) rfl rfl Try.func149 (by kernel_rfl) rfl #[.pointer (some ⟨g, 0, none⟩), .int .i64 8] rfl zm ?_; (with_reducible refine (spec_l02DrawPoly.calls k g s0_0 s0_1 s0_2 8 t672 t675 t676 w0 _ ?side1 ?side2 A2.out).mono ?_); (case side1 => repeat (first | (with_reducible first | exact HI0.out | apply IsS132.alloc | apply IsS132.drewN | apply IsS132.drew | apply IsS132.set_1 | apply IsS132.set_2) | exact HI0.out)); (case side2 => repeat (first | (with_reducible first | exact HB.out | apply below_alloc | apply pw_below_drewN | apply below_drew1 | refine below_set ?_ (IsS132.ge HI0.out)) | exact HB.out)); rintro e w92 ⟨v673, rfl, ho0, hi, hb, hk⟩; refine ⟨_, rfl, ?_⟩; have n0_ := aM (Kd.R_lower ho0 (keep_size (w := w) (g := g) (row := none) (by repeat (first | (with_reducible first | exact HK.out | apply KeepBut.set_ | apply keep_drewN | apply keep_drew | apply keep_alloc) | exact HK.out)))); have n1_ := aM (KeepBut.trans (by repeat (first | (with_reducible first | exact HK.out | apply KeepBut.set_ | apply keep_drewN | apply keep_drew | apply keep_alloc) | exact HK.out)) hk (.inl rfl)); have n2_ := aM (hb); have n3_ := aM (hi); clear HK; clear HB; clear HI0; have HO674 := n0_; have HK := n1_; have HB := n2_; have HI0 := n3_; clear n0_ n1_ n2_ n3_; (try clear hb); (try clear hb2); (try clear hk); (try clear hi); (try clear ho0)) | ((with_reducible refine gate_callee (f := 118) rfl ?_); refine goesL_ (some 10) rfl rfl Try.func118 (by kernel_rfl) rfl #[.pointer (some ⟨g, 0, none⟩), .int .i64 9] rfl zm ?_; (with_reducible refine (spec_l01Next.calls g s0_0 t675 t676 9 t677 t678 t679 w0 _ ?side1 ?side2 A3.out).mono ?_); (case side1 => repeat (first | (with_reducible first | exact HI0.out | apply IsS132.alloc | apply IsS132.drewN | apply IsS132.drew | apply IsS132.set_1 | apply IsS132.set_2) | exact HI0.out)); (case side2 => repeat (first | (with_reducible first | exact HB.out | apply below_alloc | apply pw_below_drewN | apply below_drew1 | refine below_set ?_ (IsS132.ge HI0.out)) | exact HB.out)); rintro e w93 ⟨rfl, hi, hb, hk⟩; refine ⟨_, rfl, ?_⟩; have n0_ := aM (Kd.R_mono (Kd.R_keep (IsS132.apart (show IsS132 w0 _ g s0_0 t675 t676 from by repeat (first | (with_reducible first | exact HI0.out | apply IsS132.alloc | apply IsS132.drewN | apply IsS132.drew | apply IsS132.set_1 | apply IsS132.set_2) | exact HI0.out)) (mR_ HO674.out) (by decide)) hk (fun _ h => h.2)) (fun _ h => h.1)); have n1_ := aM (KeepBut.trans (by repeat (first | (with_reducible first | exact HK.out | apply KeepBut.set_ | apply keep_drewN | apply keep_drew | apply keep_alloc) | exact HK.out)) hk (.inl rfl)); have n2_ := aM (hb); have n3_ := aM (hi); clear HO674; clear HK; clear HB; clear HI0; have HO674 := n0_; have HK := n1_; have HB := n2_; have HI0 := n3_; clear n0_ n1_ n2_ n3_; (try clear hb); (try clear hb2); (try clear hk); (try clear hi)) | ((with_reducible refine gate_callee (f := 118) rfl ?_); refine goesL_ (some 13) rfl rfl Try.func118 (by kernel_rfl) rfl #[.pointer (some ⟨g, 0, none⟩), .int .i64 9] rfl zm ?_; (with_reducible refine (spec_l01Next.calls g s0_0 t678 t679 9 t680 t681 t682 w0 _ ?side1 ?side2 A4.out).mono ?_); (case side1 => repeat (first | (with_reducible first | exact HI0.out | apply IsS132.alloc | apply IsS132.drewN | apply IsS132.drew | apply IsS132.set_1 | apply IsS132.set_2) | exact HI0.out)); (case side2 => repeat (first | (with_reducible first | exact HB.out | apply below_alloc | apply pw_below_drewN | apply below_drew1 | refine below_set ?_ (IsS132.ge HI0.out)) | exact HB.out)); rintro e w94 ⟨rfl, hi, hb, hk⟩; refine ⟨_, rfl, ?_⟩; have n0_ := aM (Kd.R_mono (Kd.R_keep (IsS132.apart (show IsS132 w0 _ g s0_0 t678 t679 from by repeat (first | (with_reducible first | exact HI0.out | apply IsS132.alloc | apply IsS132.drewN | apply IsS132.drew | apply IsS132.set_1 | apply IsS132.set_2) | exact HI0.out)) (mR_ HO674.out) (by decide)) hk (fun _ h => h.2)) (fun _ h => h.1)); have n1_ := aM (KeepBut.trans (by repeat (first | (with_reducible first | exact HK.out | apply KeepBut.set_ | apply keep_drewN | apply keep_drew | apply keep_alloc) | exact HK.out)) hk (.inl rfl)); have n2_ := aM (hb); have n3_ := aM (hi); clear HO674; clear HK; clear HB; clear HI0; have HO674 := n0_; have HK := n1_; have HB := n2_; have HI0 := n3_; clear n0_ n1_ n2_ n3_; (try clear hb); (try clear hb2); (try clear hk); (try clear hi); obtain ⟨Ao95, co95, eo95⟩ := Kd.R_slice HO674.out; subst eo95) | ((with_reducible refine gate_callee (f := 152) rfl ?_); refine goesL_ (some 15) rfl rfl Try.func152 (by kernel_rfl) rfl #[.slice Ao95 t672.length co95, .int .i64 (wrap64 (t677 - 4)), .int .i64 (wrap64 (t680 - 4))] rfl zm ?_; (with_reducible refine (spec_l02Move.calls k _ _ t672 (wrap64 (t677 - 4)) (wrap64 (t680 - 4)) t683 _ ?side1 ?side2 A5.out).mono ?_); (case side1 => repeat (first | exact (Kd.R_reads' HO674.out).2.2 | (with_reducible refine Kd.C_alloc ?_ _) | (with_reducible refine Kd.C_drewN ?_ _) | (with_reducible refine Kd.C_drew ?_))); (case side2 => exact (Kd.R_reads' HO674.out).2.1); rintro e w96 ⟨v684, rfl, ho0, hb⟩; refine ⟨_, rfl, ?_⟩; have n0_ := aM (Kd.R_elder' (mR_ HO674.out) (Kd.R_base ho0) hb); have n1_ := aM (Kd.R_lower (Kd.R_new' ho0 (Kd.R_lt (mR_ HO674.out))) (keep_size (w := w) (g := g) (row := none) (by repeat (first | (with_reducible first | exact HK.out | apply KeepBut.set_ | apply keep_drewN | apply keep_drew | apply keep_alloc) | exact HK.out)))); have n2_ := aM (IsS132.below (by repeat (first | (with_reducible first | exact HI0.out | apply IsS132.alloc | apply IsS132.drewN | apply IsS132.drew | apply IsS132.set_1 | apply IsS132.set_2) | exact HI0.out)) hb); have n3_ := aM (KeepBut.trans (by repeat (first | (with_reducible first | exact HK.out | apply KeepBut.set_ | apply keep_drewN | apply keep_drew | apply keep_alloc) | exact HK.out)) (KeepBut.of_below hb g none) (.inl rfl)); have n4_ := aM (below_step (by repeat (first | (with_reducible first | exact HB.out | apply below_alloc | apply pw_below_drewN | apply below_drew1 | refine below_set ?_ (IsS132.ge HI0.out)) | exact HB.out)) hb); clear HO674; clear HI0; clear HK; clear HB; have HO674 := n0_; have HO685 := n1_; have HI0 := n2_; have HK := n3_; have HB := n4_; clear n0_ n1_ n2_ n3_ n4_; (try clear hb); (try clear hb2); (try clear hk); (try clear hi); (try clear ho0); obtain ⟨Ao97, co97, eo97⟩ := Kd.R_slice HO685.out; subst eo97) | ((with_reducible refine gate_callee (f := 118) rfl ?_); refine goesL_ (some 19) rfl rfl Try.func118 (by kernel_rfl) rfl #[.pointer (some ⟨g, 0, none⟩), .int .i64 (t683.length : Int)] rfl zm ?_; (with_reducible refine (spec_l01Next.calls g s0_0 t681 t682 (t683.length : Int) t686 t687 t688 w0 _ ?side1 ?side2 A6.out).mono ?_); (case side1 => repeat (first | (with_reducible first | exact HI0.out | apply IsS132.alloc | apply IsS132.drewN | apply IsS132.drew | apply IsS132.set_1 | apply IsS132.set_2) | exact HI0.out)); (case side2 => repeat (first | (with_reducible first | exact HB.out | apply below_alloc | apply pw_below_drewN | apply below_drew1 | refine below_set ?_ (IsS132.ge HI0.out)) | exact HB.out)); rintro e w98 ⟨rfl, hi, hb, hk⟩; refine ⟨_, rfl, ?_⟩; have n0_ := aM (Kd.R_mono (Kd.R_keep (IsS132.apart (show IsS132 w0 _ g s0_0 t681 t682 from by repeat (first | (with_reducible first | exact HI0.out | apply IsS132.alloc | apply IsS132.drewN | apply IsS132.drew | apply IsS132.set_1 | apply IsS132.set_2) | exact HI0.out)) (mR_ HO674.out) (by decide)) hk (fun _ h => h.2)) (fun _ h => h.1)); have n1_ := aM (Kd.R_mono (Kd.R_keep (IsS132.apart (show IsS132 w0 _ g s0_0 t681 t682 from by repeat (first | (with_reducible first | exact HI0.out | apply IsS132.alloc | apply IsS132.drewN | apply IsS132.drew | apply IsS132.set_1 | apply IsS132.set_2) | exact HI0.out)) (mR_ HO685.out) (by decide)) hk (fun _ h => h.2)) (fun _ h => h.1)); have n2_ := aM (KeepBut.trans (by repeat (first | (with_reducible first | exact HK.out | apply KeepBut.set_ | apply keep_drewN | apply keep_drew | apply keep_alloc) | exact HK.out)) hk (.inl rfl)); have n3_ := aM (hb); have n4_ := aM (hi); clear HO674; clear HO685; clear HK; clear HB; clear HI0; have HO674 := n0_; have HO685 := n1_; have HK := n2_; have HB := n3_; have HI0 := n4_; clear n0_ n1_ n2_ n3_ n4_; (try clear hb); (try clear hb2); (try clear hk); (try clear hi)) | ((with_reducible refine gate_callee (f := 118) rfl ?_); refine goesL_ (some 21) rfl rfl Try.func118 (by kernel_rfl) rfl #[.pointer (some ⟨g, 0, none⟩), .int .i64 24] rfl zm ?_; (with_reducible refine (spec_l01Next.calls g s0_0 t687 t688 24 t689 t690 t691 w0 _ ?side1 ?side2 A7.out).mono ?_); (case side1 => repeat (first | (with_reducible first | exact HI0.out | apply IsS132.alloc | apply IsS132.drewN | apply IsS132.drew | apply IsS132.set_1 | apply IsS132.set_2) | exact HI0.out)); (case side2 => repeat (first | (with_reducible first | exact HB.out | apply below_alloc | apply pw_below_drewN | apply below_drew1 | refine below_set ?_ (IsS132.ge HI0.out)) | exact HB.out)); rintro e w99 ⟨rfl, hi, hb, hk⟩; refine ⟨_, rfl, ?_⟩; have n0_ := aM (Kd.R_mono (Kd.R_keep (IsS132.apart (show IsS132 w0 _ g s0_0 t687 t688 from by repeat (first | (with_reducible first | exact HI0.out | apply IsS132.alloc | apply IsS132.drewN | apply IsS132.drew | apply IsS132.set_1 | apply IsS132.set_2) | exact HI0.out)) (mR_ HO674.out) (by decide)) hk (fun _ h => h.2)) (fun _ h => h.1)); have n1_ := aM (Kd.R_mono (Kd.R_keep (IsS132.apart (show IsS132 w0 _ g s0_0 t687 t688 from by repeat (first | (with_reducible first | exact HI0.out | apply IsS132.alloc | apply IsS132.drewN | apply IsS132.drew | apply IsS132.set_1 | apply IsS132.set_2) | exact HI0.out)) (mR_ HO685.out) (by decide)) hk (fun _ h => h.2)) (fun _ h => h.1)); have n2_ := aM (KeepBut.trans (by repeat (first | (with_reducible first | exact HK.out | apply KeepBut.set_ | apply keep_drewN | apply keep_drew | apply keep_alloc) | exact HK.out)) hk (.inl rfl)); have n3_ := aM (hb); have n4_ := aM (hi); clear HO674; clear HO685; clear HK; clear HB; clear HI0; have HO674 := n0_; have HO685 := n1_; have HK := n2_; have HB := n3_; have HI0 := n4_; clear n0_ n1_ n2_ n3_ n4_; (try clear hb); (try clear hb2); (try clear hk); (try clear hi)))
 have n0_ := aM (Kd.R_drew HO674.out)
 have n1_ := aM (Kd.R_drew HO685.out)
 have n2_ := aM (IsS132.drew HI0.out)
 have n3_ := aM (keep_drew HK.out)
 have n4_ := aM (below_drew1 HB.out)
 clear HO674
 clear HO685
 clear HI0
 clear HK
 clear HB
 have HO674 := n0_
 have HO685 := n1_
 have HI0 := n2_
 have HK := n3_
 have HB := n4_
 clear n0_ n1_ n2_ n3_ n4_
 have p721 : 0 ≤ (0 : Int) := (by omega)
 have q721 : 0 < (t683.length : Int) := of_decide_eq_true za
 obtain ⟨ad721, e721, hx721_0, hx721_1⟩ := at_T59 (Kd.R_reads' HO685.out).2.2 0 p721 q721
 cases e721
 have qi721 : (0 < t683.length) = True := eq_true (by omega)
 (try rw [show ((0 : Int)).toNat = 0 from rfl] at hx721_0)
 (try rw [show 0 * 2 = 0 from rfl] at hx721_0)
 (try rw [Addr.add_zero'] at hx721_0)
 (try rw [show ((0 : Int)).toNat = 0 from rfl] at hx721_1)
 (try rw [show 0 * 2 = 0 from rfl] at hx721_1)
 (try rw [Addr.add_zero'] at hx721_1)
 replace p721 := eq_true p721
 replace q721 := eq_true q721
 have p722 : 0 ≤ ((ji88) : Int) := of_decide_eq_true za
 have q722 : (ji88) < (t683.length : Int) := of_decide_eq_true za
 obtain ⟨ad722, e722, hx722_0, hx722_1⟩ := at_T59 (Kd.R_reads' HO685.out).2.2 (ji88) p722 q722
 obtain rfl : ad721 = ad722 := (by injection e722)
 replace p722 := eq_true p722
 replace q722 := eq_true q722
 refine start_ (n := 18) (S := fun w' => w'.cell? ad721 = some (.int .i64 ((rd_T59 t683 0).f0)) ∧ w'.cell? ⟨ad721.block, ad721.off + 1, none⟩ = some (.int .i64 ((rd_T59 t683 0).f1)) ∧ w'.cell? (ad721.add (((ji88)).toNat * 2)) = some (.int .i64 ((rd_T59 t683 (ji88)).f0)) ∧ w'.cell? ⟨(ad721.add (((ji88)).toNat * 2)).block, (ad721.add (((ji88)).toNat * 2)).off + 1, none⟩ = some (.int .i64 ((rd_T59 t683 (ji88)).f1))) (ds := [15, 16]) #[false, false, false, false, false, false, false, false, false, false, false, false, false, false, false, false, false, false] (by kernel_rfl) rfl rfl ⟨hx721_0, hx721_1, hx722_0, hx722_1⟩ (fun hHeld => ?_); refine with_tabW spec_l02Draw.tab20 spec_l02Draw.bits20 (fun HT_ HW_ => ?_)
 generalize w99.drew = w100 at HO674 HO685 HI0 HK HB hx721_0 hx721_1 hx722_0 hx722_1 hHeld ⊢
 refine pure_ (i := 0) (N := some 65) (v := ?_) (a' := ?_) #[true, false, false, false, false, false, false, false, false, false, false, false, false, false, false, false, false, false] rfl rfl zz (fun _ _ _ h => h) (Or.inl ⟨by rfl, ?_⟩) ?_ ?_
 rotate_left
 ·intro w'
  go_simp
  with_reducible rfl
 rotate_left
 ·simp only [Act.put, xA, xB, xC, i64_w, i32_w]
  rfl
 refine pure_ (i := 1) (N := some 66) (v := ?_) (a' := ?_) #[true, true, false, false, false, false, false, false, false, false, false, false, false, false, false, false, false, false] rfl rfl zz (fun _ _ _ h => h) (Or.inl ⟨by rfl, ?_⟩) ?_ ?_
 rotate_left
 ·intro w'
  go_simp
  with_reducible rfl
 rotate_left
 ·simp only [Act.put, xA, xB, xC, i64_w, i32_w]
  rfl
 refine pure_ (i := 2) (N := some 67) (v := ?_) (a' := ?_) #[true, true, true, false, false, false, false, false, false, false, false, false, false, false, false, false, false, false] rfl rfl zz (fun _ _ _ h => h) (Or.inl ⟨by rfl, ?_⟩) ?_ ?_
 rotate_left
 ·intro w'
  go_simp
  with_reducible rfl
 rotate_left
 ·simp only [Act.put, xA, xB, xC, i64_w, i32_w]
  rfl
 refine pure_ (i := 3) (N := some 68) (v := ?_) (a' := ?_) #[true, true, true, true, false, false, false, false, false, false, false, false, false, false, false, false, false, false] rfl rfl zz (fun _ _ _ h => h) (Or.inl ⟨by rfl, ?_⟩) ?_ ?_
 rotate_left
 ·intro w'
  go_simp
  with_reducible rfl
 rotate_left
 ·simp only [Act.put, xA, xB, xC, i64_w, i32_w]
  rfl
 refine pure_ (i := 6) (N := some 71) (v := ?_) (a' := ?_) #[true, true, true, true, false, false, true, false, false, false, false, false, false, false, false, false, false, false] rfl rfl zz (fun _ _ _ h => h) (Or.inl ⟨by rfl, ?_⟩) ?_ ?_
 rotate_left
 ·intro w'
  go_simp
  with_reducible rfl
 rotate_left
 ·simp only [Act.put, xA, xB, xC, i64_w, i32_w]
  rfl
 refine pure_ (i := 7) (N := some 72) (v := ?_) (a' := ?_) #[true, true, true, true, false, false, true, true, false, false, false, false, false, false, false, false, false, false] rfl rfl zz (fun _ _ _ h => h) (Or.inl ⟨by rfl, ?_⟩) ?_ ?_
 rotate_left
 ·intro w'
  go_simp
  with_reducible rfl
 rotate_left
 ·simp only [Act.put, xA, xB, xC, i64_w, i32_w]
  rfl
 refine pure_ (i := 8) (N := some 73) (v := ?_) (a' := ?_) #[true, true, true, true, false, false, true, true, true, false, false, false, false, false, false, false, false, false] rfl rfl zz (fun _ _ _ h => h) (Or.inl ⟨by rfl, ?_⟩) ?_ ?_
 rotate_left
 ·intro w'
  go_simp
  with_reducible rfl
 rotate_left
 ·simp only [Act.put, xA, xB, xC, i64_w, i32_w]
  rfl
 refine pure_ (i := 9) (N := some 74) (v := ?_) (a' := ?_) #[true, true, true, true, false, false, true, true, true, true, false, false, false, false, false, false, false, false] rfl rfl zz (fun _ _ _ h => h) (Or.inl ⟨by rfl, ?_⟩) ?_ ?_
 rotate_left
 ·intro w'
  go_simp
  with_reducible rfl
 rotate_left
 ·simp only [Act.put, xA, xB, xC, i64_w, i32_w]
  rfl
 refine pure_ (i := 10) (N := some 75) (v := ?_) (a' := ?_) #[true, true, true, true, false, false, true, true, true, true, true, false, false, false, false, false, false, false] rfl rfl zz (fun _ _ _ h => h) (Or.inl ⟨by rfl, ?_⟩) ?_ ?_
 rotate_left
 ·intro w'
  go_simp
  with_reducible rfl
 rotate_left
 ·simp only [Act.put, xA, xB, xC, i64_w, i32_w]
  rfl
 refine pure_ (i := 11) (N := some 76) (v := ?_) (a' := ?_) #[true, true, true, true, false, false, true, true, true, true, true, true, false, false, false, false, false, false] rfl rfl zz (fun _ _ _ h => h) (Or.inl ⟨by rfl, ?_⟩) ?_ ?_
 rotate_left
 ·intro w'
  go_simp
  with_reducible rfl
 rotate_left
 ·simp only [Act.put, xA, xB, xC, i64_w, i32_w]
  rfl
 refine take_ (i := 4) (N := some 69) (v := ?_) (a' := ?_) #[true, true, true, true, true, false, true, true, true, true, true, true, false, false, false, false, false, false] rfl rfl (take_ofW HT_.out HW_.out (by kernel_rfl)) (fun _ _ _ h => h) (Or.inl ⟨by rfl, ?_⟩) hHeld ?_ ?_
 rotate_left
 ·rintro w' ⟨s0, s1, s2, s3⟩
  go_simp
  with_reducible rfl
 rotate_left
 ·simp only [Act.put, xA, xB, xC, i64_w, i32_w]
  rfl
 refine pure_ (i := 5) (N := some 70) (v := ?_) (a' := ?_) #[true, true, true, true, true, true, true, true, true, true, true, true, false, false, false, false, false, false] rfl rfl zz (fun _ _ _ h => h) (Or.inl ⟨by rfl, ?_⟩) ?_ ?_
 rotate_left
 ·intro w'
  go_simp
  with_reducible rfl
 rotate_left
 ·simp only [Act.put, xA, xB, xC, i64_w, i32_w]
  rfl
 refine take_ (i := 12) (N := some 77) (v := ?_) (a' := ?_) #[true, true, true, true, true, true, true, true, true, true, true, true, true, false, false, false, false, false] rfl rfl (take_ofW HT_.out HW_.out (by kernel_rfl)) (fun _ _ _ h => h) (Or.inl ⟨by rfl, ?_⟩) hHeld ?_ ?_
 rotate_left
 ·rintro w' ⟨s0, s1, s2, s3⟩
  go_simp
  with_reducible rfl
 rotate_left
 ·simp only [Act.put, xA, xB, xC, i64_w, i32_w]
  rfl
 refine pure_ (i := 13) (N := some 78) (v := ?_) (a' := ?_) #[true, true, true, true, true, true, true, true, true, true, true, true, true, true, false, false, false, false] rfl rfl zz (fun _ _ _ h => h) (Or.inl ⟨by rfl, ?_⟩) ?_ ?_
 rotate_left
 ·intro w'
  go_simp
  with_reducible rfl
 rotate_left
 ·simp only [Act.put, xA, xB, xC, i64_w, i32_w]
  rfl
 refine pure_ (i := 14) (N := some 79) (v := ?_) (a' := ?_) #[true, true, true, true, true, true, true, true, true, true, true, true, true, true, true, false, false, false] rfl rfl zz (fun _ _ _ h => h) (Or.inl ⟨by rfl, ?_⟩) ?_ ?_
 rotate_left
 ·intro w'
  go_simp
  with_reducible rfl
 rotate_left
 ·simp only [Act.put, xA, xB, xC, i64_w, i32_w]
  rfl
 refine last_ (i := 15) (N := some 80) #[true, true, true, true, true, true, true, true, true, true, true, true, true, true, true, true, false, false] rfl rfl (one_of HT_.out (by kernel_rfl)) (by decide) (fun K hK => ?_)
 refine value_ (w1 := ?_) (v := ?_) (by rfl) rfl ?_ ?_
 rotate_left 2
 ·go_simp
  constructor
  ·rfl
  ·rfl
 refine hK.out _ _ ?_
 clear hK K
 refine norm_ (a' := ?_) ?_ ?_
 rotate_left
 ·show Act.put _ (some 80) _ = _
  simp only [Act.put, xA, xB, xC, i64_w, i32_w]
  rfl
 refine last_ (i := 16) (N := some 81) #[true, true, true, true, true, true, true, true, true, true, true, true, true, true, true, true, true, false] rfl rfl (one_of HT_.out (by kernel_rfl)) (by decide) (fun K hK => ?_)
 refine Kd.R_append_step k59 w.heap.size (by rfl) (.tmp 65) (.tmp 80) 43 59 (.agg #[(.int .i64 0), (.int .i64 0)]) 16 rfl Try.underlying43 info59 rfl (by decide) (by omega) (.slice (some ad721) t683.length co97) t683 (⟨wrap64 (((rd_T59 t683 0).f0) + 3), wrap64 (((rd_T59 t683 (ji88)).f1) + 2)⟩ : S59) [.int .i64 (wrap64 (((rd_T59 t683 0).f0) + 3)), .int .i64 (wrap64 (((rd_T59 t683 (ji88)).f1) + 2))] (fun k_ => some k_ ≠ (.slice Ao95 t672.length co95 : Value).ownBlock) (fun _ => False) rfl rfl ?aP (fun _ hk => hk.elim) ?aF ?aO (Below.refl _ _) ?aS ?aL ?_
 (case aP => exact k59_mkM _ _ _ (⟨wrap64 (((rd_T59 t683 0).f0) + 3), wrap64 (((rd_T59 t683 (ji88)).f1) + 2)⟩ : S59))
 (case aF => exact (fun k_ hk => Kd.fresh' (Kd.R_lt (mR_ HO674.out)) k_ hk))
 (case aO => exact (by (with_reducible repeat (first | apply Kd.R_alloc | apply Kd.R_drewN | apply Kd.R_drew)); exact Kd.R_mono HO685.out (fun _ hk => hk.2)))
 (case aS => exact (keep_size (w := w) (g := g) (row := none) (by repeat (first | (with_reducible first | exact HK.out | apply KeepBut.set_ | apply keep_drewN | apply keep_drew | apply keep_alloc) | exact HK.out))))
 (case aL => have := LMc91.out; omega)
 intro v724 w101 ho hb hg hat
 rw [← Ny723.out] at ho
 have n0_ := aM (IsS132.grown (by repeat (first | (with_reducible first | exact HI0.out | apply IsS132.alloc | apply IsS132.drewN | apply IsS132.drew | apply IsS132.set_1 | apply IsS132.set_2) | exact HI0.out)) hg (IsS132.own_ne HI0.out HO685.out (by decide)))
 have n1_ := aM (Kd.R_after (ok := (fun _ => True)) (mR_ HO674.out) hg hat)
 have n2_ := aM (below_weaken (by repeat (first | (with_reducible first | exact HB.out | apply below_alloc | apply pw_below_drewN | apply below_drew1 | refine below_set ?_ (IsS132.ge HI0.out)) | exact HB.out)) HL.out hb)
 have n3_ := aM (KeepBut.trans (by repeat (first | (with_reducible first | exact HK.out | apply KeepBut.set_ | apply keep_drewN | apply keep_drew | apply keep_alloc) | exact HK.out)) (KeepBut.of_grown hg g) (Kd.R_base2 HO685.out))
 have n4_ := aM (ho)
 clear HI0
 clear HO674
 clear HB
 clear HK
 clear HO685
 have HI0 := n0_
 have HO674 := n1_
 have HB := n2_
 have HK := n3_
 have HO725 := n4_
 clear n0_ n1_ n2_ n3_ n4_
 clear ho hb hg hat
 refine hK.out _ _ ?_
 clear hK K
 refine norm_ (a' := ?_) ?_ ?_
 rotate_left
 ·show Act.put _ (some 81) _ = _
  simp only [Act.put, xA, xB, xC, i64_w, i32_w]
  rfl
 refine pure_ (i := 17) (N := some 2) (v := ?_) (a' := ?_) #[true, true, true, true, true, true, true, true, true, true, true, true, true, true, true, true, true, true] rfl rfl zz (fun _ _ _ h => h) (Or.inl ⟨by rfl, ?_⟩) ?_ ?_
 rotate_left
 ·intro w'
  go_simp
  with_reducible rfl
 rotate_left
 ·simp only [Act.put, xA, xB, xC, i64_w, i32_w]
  rfl
 refine done_ (done_of HT_.out (by kernel_rfl)) ?_
 try go_wp2
 go_ret
 exact ⟨_, by first | rfl | (simp [errW_none, errW_some] <;> rfl) | (simp only [← hji88]; first | rfl | (simp [errW_none, errW_some] <;> rfl)) | (simp [*, errW_none, errW_some] <;> rfl), by (with_reducible repeat (first | apply Kd.R_alloc | apply Kd.R_drewN | apply Kd.R_drew)); exact Kd.R_mono HO725.out (fun _ hk => trivial), by repeat (first | (with_reducible first | exact HI0.out | apply IsS132.alloc | apply IsS132.drewN | apply IsS132.drew | apply IsS132.set_1 | apply IsS132.set_2) | exact HI0.out), by repeat (first | (with_reducible first | exact HB.out | apply below_alloc | apply pw_below_drewN | apply below_drew1 | refine below_set ?_ (IsS132.ge HI0.out)) | exact HB.out), by repeat (first | (with_reducible first | exact HK.out | apply KeepBut.set_ | apply keep_drewN | apply keep_drew | apply keep_alloc) | exact HK.out)⟩
end Go.Proofs.Ytabdmdkoffpppaa.F
end
section
namespace Go.Proofs.Ytabdmdkoffpppaa.F
open Go.RowKit Go.Proofs.YtabdmdkoffpppaaW.PrintWords Go.Proofs.YtabdmdkoffpppaaW.PrintLast Go.Proofs.YtabdmdkoffpppaaW.PrintMore
attribute [local go_sem] max2_int min2_int max_two min_two max_three min_three max_four min_four
set_option linter.unusedVariables false
set_option linter.unusedSimpArgs false
end Go.Proofs.Ytabdmdkoffpppaa.F
end
