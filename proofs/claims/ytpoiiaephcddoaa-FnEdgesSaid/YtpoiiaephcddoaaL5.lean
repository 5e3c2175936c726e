/- The row of FnEdges, with what it needs: text 6 of 9. -/
import Derived.Test.YtpoiiaephcddoaaL4
set_option maxHeartbeats 8000000
set_option maxRecDepth 100000
section
namespace Go.Proofs.Ytpoiiaephcddoaa.F
open Go.RowKit Go.Proofs.YtpoiiaephcddoaaW.PrintWords Go.Proofs.YtpoiiaephcddoaaW.PrintLast Go.Proofs.YtpoiiaephcddoaaW.PrintMore
attribute [local go_sem] max2_int min2_int max_two min_two max_three min_three max_four min_four
set_option linter.unusedVariables false
set_option linter.unusedSimpArgs false
theorem spec_l02Draw.calls (k : Nat) (g : Nat) (s0_0 : List Int) (s0_1 : Int) (s0_2 : Int) (r1 : List (S35)) (r2 : Int) (r3 : Int) (w0 w : World) (hI : IsS56 w0 w g s0_0 s0_1 s0_2) (hB : Below w0.heap.size w0 w) (h : spec_l02Draw.f k s0_0 s0_1 s0_2 = some (r1, r2, r3)) :
  Calls Try.prog 34 #[.pointer (some ⟨g, 0, none⟩)] w fun e w' => ∃ v0_ : Value, e = .returned (v0_) ∧ Kd.R k35 35 w' w.heap.size (fun _ => True) v0_ r1 ∧ IsS56 w0 w' g s0_0 r2 r3 ∧ Below w0.heap.size w0 w' ∧ KeepBut w w' g none := by
 have hu35 := Try.underlying35
 have HI0 := aM hI
 have HK := aM (KeepBut.refl w g none)
 have HL := aM hB.size
 clear hI
 have HW0 := aM hB.size
 have HB := aM hB
 clear hB
 have H : ((spec_l02DrawPoly.f k s0_0 s0_1 s0_2 8).bind fun bt279 => ((spec_l01Next.f s0_0 bt279.2.1 bt279.2.2 9).bind fun bt284 => ((spec_l01Next.f s0_0 bt284.2.1 bt284.2.2 9).bind fun bt287 => ((spec_l02Move.f k bt279.1 (wrap64 (bt284.1 - 4)) (wrap64 (bt287.1 - 4))).bind fun t290 => ((spec_l01Next.f s0_0 bt287.2.1 bt287.2.2 (t290.length : Int)).bind fun bt293 => ((spec_l01Next.f s0_0 bt293.2.1 bt293.2.2 24).bind fun bt296 => (if bt296.1 = 0 then ((some (([(-100), 100, 101] : List Int) : List Int)).bind fun y299 => ((spec_l01Next.f s0_0 bt296.2.1 bt296.2.2 3).bind fun bt302 => (if 0 ≤ bt302.1 then (if bt302.1 < (y299.length : Int) then (if 0 ≤ bt293.1 then (if bt293.1 < (t290.length : Int) then ((spec_l02Sort.f k (t290.set (bt293.1 : Int).toNat (⟨rd y299 bt302.1, (rd_T35 t290 bt293.1).f1⟩ : S35))).bind fun t307 => (some (t307, bt302.2.1, bt302.2.2))) else (none)) else (none)) else (none)) else (none)))) else (if bt296.1 = 1 then (if 0 ≤ bt293.1 then (if bt293.1 < (t290.length : Int) then (if t290.length < 8796093022208 then (some ((t290 ++ [(⟨(rd_T35 t290 bt293.1).f0, (rd_T35 t290 bt293.1).f1⟩ : S35)]), bt296.2.1, bt296.2.2)) else (none)) else (none)) else (none)) else (if bt296.1 = 2 then (some (([] : List (S35)), bt296.2.1, bt296.2.2)) else (if bt296.1 = 3 then (spec_l02Draw.l0 k (([] : List (S35))) 0 s0_0 bt296.2.1 bt296.2.2) else (if bt296.1 = 4 then (if 0 < (t290.length : Int) then (if 0 ≤ (wrap64 ((t290.length : Int) - 1)) then (if (wrap64 ((t290.length : Int) - 1)) < (t290.length : Int) then (if t290.length < 8796093022208 then (some ((t290 ++ [(⟨wrap64 (((rd_T35 t290 0).f0) + 3), wrap64 (((rd_T35 t290 (wrap64 ((t290.length : Int) - 1))).f1) + 2)⟩ : S35)]), bt296.2.1, bt296.2.2)) else (none)) else (none)) else (none)) else (none)) else (if bt296.1 = 5 then (if 0 < (t290.length : Int) then (if 0 ≤ (wrap64 ((t290.length : Int) - 1)) then (if (wrap64 ((t290.length : Int) - 1)) < (t290.length : Int) then (if t290.length < 8796093022208 then (some ((t290 ++ [(⟨wrap64 (((rd_T35 t290 0).f0) + 3), wrap64 (((rd_T35 t290 (wrap64 ((t290.length : Int) - 1))).f1) + 2)⟩ : S35)]), bt296.2.1, bt296.2.2)) else (none)) else (none)) else (none)) else (none)) else (some (t290, bt296.2.1, bt296.2.2)))))))))))))) = some (r1, r2, r3) := h
 clear h
 replace H := Option.bind_eq_some_iff.mp H
 obtain ⟨⟨t279, t282, t283⟩, A20, H⟩ := H
 replace H : ((spec_l01Next.f s0_0 t282 t283 9).bind fun bt284 => ((spec_l01Next.f s0_0 bt284.2.1 bt284.2.2 9).bind fun bt287 => ((spec_l02Move.f k t279 (wrap64 (bt284.1 - 4)) (wrap64 (bt287.1 - 4))).bind fun t290 => ((spec_l01Next.f s0_0 bt287.2.1 bt287.2.2 (t290.length : Int)).bind fun bt293 => ((spec_l01Next.f s0_0 bt293.2.1 bt293.2.2 24).bind fun bt296 => (if bt296.1 = 0 then ((some (([(-100), 100, 101] : List Int) : List Int)).bind fun y299 => ((spec_l01Next.f s0_0 bt296.2.1 bt296.2.2 3).bind fun bt302 => (if 0 ≤ bt302.1 then (if bt302.1 < (y299.length : Int) then (if 0 ≤ bt293.1 then (if bt293.1 < (t290.length : Int) then ((spec_l02Sort.f k (t290.set (bt293.1 : Int).toNat (⟨rd y299 bt302.1, (rd_T35 t290 bt293.1).f1⟩ : S35))).bind fun t307 => (some (t307, bt302.2.1, bt302.2.2))) else (none)) else (none)) else (none)) else (none)))) else (if bt296.1 = 1 then (if 0 ≤ bt293.1 then (if bt293.1 < (t290.length : Int) then (if t290.length < 8796093022208 then (some ((t290 ++ [(⟨(rd_T35 t290 bt293.1).f0, (rd_T35 t290 bt293.1).f1⟩ : S35)]), bt296.2.1, bt296.2.2)) else (none)) else (none)) else (none)) else (if bt296.1 = 2 then (some (([] : List (S35)), bt296.2.1, bt296.2.2)) else (if bt296.1 = 3 then (spec_l02Draw.l0 k (([] : List (S35))) 0 s0_0 bt296.2.1 bt296.2.2) else (if bt296.1 = 4 then (if 0 < (t290.length : Int) then (if 0 ≤ (wrap64 ((t290.length : Int) - 1)) then (if (wrap64 ((t290.length : Int) - 1)) < (t290.length : Int) then (if t290.length < 8796093022208 then (some ((t290 ++ [(⟨wrap64 (((rd_T35 t290 0).f0) + 3), wrap64 (((rd_T35 t290 (wrap64 ((t290.length : Int) - 1))).f1) + 2)⟩ : S35)]), bt296.2.1, bt296.2.2)) else (none)) else (none)) else (none)) else (none)) else (if bt296.1 = 5 then (if 0 < (t290.length : Int) then (if 0 ≤ (wrap64 ((t290.length : Int) - 1)) then (if (wrap64 ((t290.length : Int) - 1)) < (t290.length : Int) then (if t290.length < 8796093022208 then (some ((t290 ++ [(⟨wrap64 (((rd_T35 t290 0).f0) + 3), wrap64 (((rd_T35 t290 (wrap64 ((t290.length : Int) - 1))).f1) + 2)⟩ : S35)]), bt296.2.1, bt296.2.2)) else (none)) else (none)) else (none)) else (none)) else (some (t290, bt296.2.1, bt296.2.2))))))))))))) = some (r1, r2, r3) := H
 have A2 := aM A20
 clear A20
 replace H := Option.bind_eq_some_iff.mp H
 obtain ⟨⟨t284, t285, t286⟩, A30, H⟩ := H
 replace H : ((spec_l01Next.f s0_0 t285 t286 9).bind fun bt287 => ((spec_l02Move.f k t279 (wrap64 (t284 - 4)) (wrap64 (bt287.1 - 4))).bind fun t290 => ((spec_l01Next.f s0_0 bt287.2.1 bt287.2.2 (t290.length : Int)).bind fun bt293 => ((spec_l01Next.f s0_0 bt293.2.1 bt293.2.2 24).bind fun bt296 => (if bt296.1 = 0 then ((some (([(-100), 100, 101] : List Int) : List Int)).bind fun y299 => ((spec_l01Next.f s0_0 bt296.2.1 bt296.2.2 3).bind fun bt302 => (if 0 ≤ bt302.1 then (if bt302.1 < (y299.length : Int) then (if 0 ≤ bt293.1 then (if bt293.1 < (t290.length : Int) then ((spec_l02Sort.f k (t290.set (bt293.1 : Int).toNat (⟨rd y299 bt302.1, (rd_T35 t290 bt293.1).f1⟩ : S35))).bind fun t307 => (some (t307, bt302.2.1, bt302.2.2))) else (none)) else (none)) else (none)) else (none)))) else (if bt296.1 = 1 then (if 0 ≤ bt293.1 then (if bt293.1 < (t290.length : Int) then (if t290.length < 8796093022208 then (some ((t290 ++ [(⟨(rd_T35 t290 bt293.1).f0, (rd_T35 t290 bt293.1).f1⟩ : S35)]), bt296.2.1, bt296.2.2)) else (none)) else (none)) else (none)) else (if bt296.1 = 2 then (some (([] : List (S35)), bt296.2.1, bt296.2.2)) else (if bt296.1 = 3 then (spec_l02Draw.l0 k (([] : List (S35))) 0 s0_0 bt296.2.1 bt296.2.2) else (if bt296.1 = 4 then (if 0 < (t290.length : Int) then (if 0 ≤ (wrap64 ((t290.length : Int) - 1)) then (if (wrap64 ((t290.length : Int) - 1)) < (t290.length : Int) then (if t290.length < 8796093022208 then (some ((t290 ++ [(⟨wrap64 (((rd_T35 t290 0).f0) + 3), wrap64 (((rd_T35 t290 (wrap64 ((t290.length : Int) - 1))).f1) + 2)⟩ : S35)]), bt296.2.1, bt296.2.2)) else (none)) else (none)) else (none)) else (none)) else (if bt296.1 = 5 then (if 0 < (t290.length : Int) then (if 0 ≤ (wrap64 ((t290.length : Int) - 1)) then (if (wrap64 ((t290.length : Int) - 1)) < (t290.length : Int) then (if t290.length < 8796093022208 then (some ((t290 ++ [(⟨wrap64 (((rd_T35 t290 0).f0) + 3), wrap64 (((rd_T35 t290 (wrap64 ((t290.length : Int) - 1))).f1) + 2)⟩ : S35)]), bt296.2.1, bt296.2.2)) else (none)) else (none)) else (none)) else (none)) else (some (t290, bt296.2.1, bt296.2.2)))))))))))) = some (r1, r2, r3) := H
 have A3 := aM A30
 clear A30
 replace H := Option.bind_eq_some_iff.mp H
 obtain ⟨⟨t287, t288, t289⟩, A40, H⟩ := H
 replace H : ((spec_l02Move.f k t279 (wrap64 (t284 - 4)) (wrap64 (t287 - 4))).bind fun t290 => ((spec_l01Next.f s0_0 t288 t289 (t290.length : Int)).bind fun bt293 => ((spec_l01Next.f s0_0 bt293.2.1 bt293.2.2 24).bind fun bt296 => (if bt296.1 = 0 then ((some (([(-100), 100, 101] : List Int) : List Int)).bind fun y299 => ((spec_l01Next.f s0_0 bt296.2.1 bt296.2.2 3).bind fun bt302 => (if 0 ≤ bt302.1 then (if bt302.1 < (y299.length : Int) then (if 0 ≤ bt293.1 then (if bt293.1 < (t290.length : Int) then ((spec_l02Sort.f k (t290.set (bt293.1 : Int).toNat (⟨rd y299 bt302.1, (rd_T35 t290 bt293.1).f1⟩ : S35))).bind fun t307 => (some (t307, bt302.2.1, bt302.2.2))) else (none)) else (none)) else (none)) else (none)))) else (if bt296.1 = 1 then (if 0 ≤ bt293.1 then (if bt293.1 < (t290.length : Int) then (if t290.length < 8796093022208 then (some ((t290 ++ [(⟨(rd_T35 t290 bt293.1).f0, (rd_T35 t290 bt293.1).f1⟩ : S35)]), bt296.2.1, bt296.2.2)) else (none)) else (none)) else (none)) else (if bt296.1 = 2 then (some (([] : List (S35)), bt296.2.1, bt296.2.2)) else (if bt296.1 = 3 then (spec_l02Draw.l0 k (([] : List (S35))) 0 s0_0 bt296.2.1 bt296.2.2) else (if bt296.1 = 4 then (if 0 < (t290.length : Int) then (if 0 ≤ (wrap64 ((t290.length : Int) - 1)) then (if (wrap64 ((t290.length : Int) - 1)) < (t290.length : Int) then (if t290.length < 8796093022208 then (some ((t290 ++ [(⟨wrap64 (((rd_T35 t290 0).f0) + 3), wrap64 (((rd_T35 t290 (wrap64 ((t290.length : Int) - 1))).f1) + 2)⟩ : S35)]), bt296.2.1, bt296.2.2)) else (none)) else (none)) else (none)) else (none)) else (if bt296.1 = 5 then (if 0 < (t290.length : Int) then (if 0 ≤ (wrap64 ((t290.length : Int) - 1)) then (if (wrap64 ((t290.length : Int) - 1)) < (t290.length : Int) then (if t290.length < 8796093022208 then (some ((t290 ++ [(⟨wrap64 (((rd_T35 t290 0).f0) + 3), wrap64 (((rd_T35 t290 (wrap64 ((t290.length : Int) - 1))).f1) + 2)⟩ : S35)]), bt296.2.1, bt296.2.2)) else (none)) else (none)) else (none)) else (none)) else (some (t290, bt296.2.1, bt296.2.2))))))))))) = some (r1, r2, r3) := H
 have A4 := aM A40
 clear A40
 replace H := Option.bind_eq_some_iff.mp H
 obtain ⟨t290, A50, H⟩ := H
 replace H : ((spec_l01Next.f s0_0 t288 t289 (t290.length : Int)).bind fun bt293 => ((spec_l01Next.f s0_0 bt293.2.1 bt293.2.2 24).bind fun bt296 => (if bt296.1 = 0 then ((some (([(-100), 100, 101] : List Int) : List Int)).bind fun y299 => ((spec_l01Next.f s0_0 bt296.2.1 bt296.2.2 3).bind fun bt302 => (if 0 ≤ bt302.1 then (if bt302.1 < (y299.length : Int) then (if 0 ≤ bt293.1 then (if bt293.1 < (t290.length : Int) then ((spec_l02Sort.f k (t290.set (bt293.1 : Int).toNat (⟨rd y299 bt302.1, (rd_T35 t290 bt293.1).f1⟩ : S35))).bind fun t307 => (some (t307, bt302.2.1, bt302.2.2))) else (none)) else (none)) else (none)) else (none)))) else (if bt296.1 = 1 then (if 0 ≤ bt293.1 then (if bt293.1 < (t290.length : Int) then (if t290.length < 8796093022208 then (some ((t290 ++ [(⟨(rd_T35 t290 bt293.1).f0, (rd_T35 t290 bt293.1).f1⟩ : S35)]), bt296.2.1, bt296.2.2)) else (none)) else (none)) else (none)) else (if bt296.1 = 2 then (some (([] : List (S35)), bt296.2.1, bt296.2.2)) else (if bt296.1 = 3 then (spec_l02Draw.l0 k (([] : List (S35))) 0 s0_0 bt296.2.1 bt296.2.2) else (if bt296.1 = 4 then (if 0 < (t290.length : Int) then (if 0 ≤ (wrap64 ((t290.length : Int) - 1)) then (if (wrap64 ((t290.length : Int) - 1)) < (t290.length : Int) then (if t290.length < 8796093022208 then (some ((t290 ++ [(⟨wrap64 (((rd_T35 t290 0).f0) + 3), wrap64 (((rd_T35 t290 (wrap64 ((t290.length : Int) - 1))).f1) + 2)⟩ : S35)]), bt296.2.1, bt296.2.2)) else (none)) else (none)) else (none)) else (none)) else (if bt296.1 = 5 then (if 0 < (t290.length : Int) then (if 0 ≤ (wrap64 ((t290.length : Int) - 1)) then (if (wrap64 ((t290.length : Int) - 1)) < (t290.length : Int) then (if t290.length < 8796093022208 then (some ((t290 ++ [(⟨wrap64 (((rd_T35 t290 0).f0) + 3), wrap64 (((rd_T35 t290 (wrap64 ((t290.length : Int) - 1))).f1) + 2)⟩ : S35)]), bt296.2.1, bt296.2.2)) else (none)) else (none)) else (none)) else (none)) else (some (t290, bt296.2.1, bt296.2.2)))))))))) = some (r1, r2, r3) := H
 have A5 := aM A50
 clear A50
 replace H := Option.bind_eq_some_iff.mp H
 obtain ⟨⟨t293, t294, t295⟩, A60, H⟩ := H
 replace H : ((spec_l01Next.f s0_0 t294 t295 24).bind fun bt296 => (if bt296.1 = 0 then ((some (([(-100), 100, 101] : List Int) : List Int)).bind fun y299 => ((spec_l01Next.f s0_0 bt296.2.1 bt296.2.2 3).bind fun bt302 => (if 0 ≤ bt302.1 then (if bt302.1 < (y299.length : Int) then (if 0 ≤ t293 then (if t293 < (t290.length : Int) then ((spec_l02Sort.f k (t290.set (t293 : Int).toNat (⟨rd y299 bt302.1, (rd_T35 t290 t293).f1⟩ : S35))).bind fun t307 => (some (t307, bt302.2.1, bt302.2.2))) else (none)) else (none)) else (none)) else (none)))) else (if bt296.1 = 1 then (if 0 ≤ t293 then (if t293 < (t290.length : Int) then (if t290.length < 8796093022208 then (some ((t290 ++ [(⟨(rd_T35 t290 t293).f0, (rd_T35 t290 t293).f1⟩ : S35)]), bt296.2.1, bt296.2.2)) else (none)) else (none)) else (none)) else (if bt296.1 = 2 then (some (([] : List (S35)), bt296.2.1, bt296.2.2)) else (if bt296.1 = 3 then (spec_l02Draw.l0 k (([] : List (S35))) 0 s0_0 bt296.2.1 bt296.2.2) else (if bt296.1 = 4 then (if 0 < (t290.length : Int) then (if 0 ≤ (wrap64 ((t290.length : Int) - 1)) then (if (wrap64 ((t290.length : Int) - 1)) < (t290.length : Int) then (if t290.length < 8796093022208 then (some ((t290 ++ [(⟨wrap64 (((rd_T35 t290 0).f0) + 3), wrap64 (((rd_T35 t290 (wrap64 ((t290.length : Int) - 1))).f1) + 2)⟩ : S35)]), bt296.2.1, bt296.2.2)) else (none)) else (none)) else (none)) else (none)) else (if bt296.1 = 5 then (if 0 < (t290.length : Int) then (if 0 ≤ (wrap64 ((t290.length : Int) - 1)) then (if (wrap64 ((t290.length : Int) - 1)) < (t290.length : Int) then (if t290.length < 8796093022208 then (some ((t290 ++ [(⟨wrap64 (((rd_T35 t290 0).f0) + 3), wrap64 (((rd_T35 t290 (wrap64 ((t290.length : Int) - 1))).f1) + 2)⟩ : S35)]), bt296.2.1, bt296.2.2)) else (none)) else (none)) else (none)) else (none)) else (some (t290, bt296.2.1, bt296.2.2))))))))) = some (r1, r2, r3) := H
 have A6 := aM A60
 clear A60
 replace H := Option.bind_eq_some_iff.mp H
 obtain ⟨⟨t296, t297, t298⟩, A70, H⟩ := H
 replace H : (if t296 = 0 then ((some (([(-100), 100, 101] : List Int) : List Int)).bind fun y299 => ((spec_l01Next.f s0_0 t297 t298 3).bind fun bt302 => (if 0 ≤ bt302.1 then (if bt302.1 < (y299.length : Int) then (if 0 ≤ t293 then (if t293 < (t290.length : Int) then ((spec_l02Sort.f k (t290.set (t293 : Int).toNat (⟨rd y299 bt302.1, (rd_T35 t290 t293).f1⟩ : S35))).bind fun t307 => (some (t307, bt302.2.1, bt302.2.2))) else (none)) else (none)) else (none)) else (none)))) else (if t296 = 1 then (if 0 ≤ t293 then (if t293 < (t290.length : Int) then (if t290.length < 8796093022208 then (some ((t290 ++ [(⟨(rd_T35 t290 t293).f0, (rd_T35 t290 t293).f1⟩ : S35)]), t297, t298)) else (none)) else (none)) else (none)) else (if t296 = 2 then (some (([] : List (S35)), t297, t298)) else (if t296 = 3 then (spec_l02Draw.l0 k (([] : List (S35))) 0 s0_0 t297 t298) else (if t296 = 4 then (if 0 < (t290.length : Int) then (if 0 ≤ (wrap64 ((t290.length : Int) - 1)) then (if (wrap64 ((t290.length : Int) - 1)) < (t290.length : Int) then (if t290.length < 8796093022208 then (some ((t290 ++ [(⟨wrap64 (((rd_T35 t290 0).f0) + 3), wrap64 (((rd_T35 t290 (wrap64 ((t290.length : Int) - 1))).f1) + 2)⟩ : S35)]), t297, t298)) else (none)) else (none)) else (none)) else (none)) else (if t296 = 5 then (if 0 < (t290.length : Int) then (if 0 ≤ (wrap64 ((t290.length : Int) - 1)) then (if (wrap64 ((t290.length : Int) - 1)) < (t290.length : Int) then (if t290.length < 8796093022208 then (some ((t290 ++ [(⟨wrap64 (((rd_T35 t290 0).f0) + 3), wrap64 (((rd_T35 t290 (wrap64 ((t290.length : Int) - 1))).f1) + 2)⟩ : S35)]), t297, t298)) else (none)) else (none)) else (none)) else (none)) else (some (t290, t297, t298)))))))) = some (r1, r2, r3) := H
 have A7 := aM A70
 clear A70
 by_cases c8 : t296 = 0
 ·rw [if_pos c8] at H
  have c8b0 : (t296 == 0) = true := beq_iff_eq.mpr c8
  have c8b1 : (t296 != 0) = false := bne_eq_false_iff_eq.mpr c8
  clear c8
  obtain ⟨y299, hy299⟩ : ∃ y_ : List Int, y_ = (([(-100), 100, 101] : List Int)) := ⟨_, rfl⟩
  replace H : ((spec_l01Next.f s0_0 t297 t298 3).bind fun bt302 => (if 0 ≤ bt302.1 then (if bt302.1 < (y299.length : Int) then (if 0 ≤ t293 then (if t293 < (t290.length : Int) then ((spec_l02Sort.f k (t290.set (t293 : Int).toNat (⟨rd y299 bt302.1, (rd_T35 t290 t293).f1⟩ : S35))).bind fun t307 => (some (t307, bt302.2.1, bt302.2.2))) else (none)) else (none)) else (none)) else (none))) = some (r1, r2, r3) := zy H hy299
  have Ny299 := aM hy299
  clear hy299
  replace H := Option.bind_eq_some_iff.mp H
  obtain ⟨⟨t302, t303, t304⟩, A90, H⟩ := H
  replace H : (if 0 ≤ t302 then (if t302 < (y299.length : Int) then (if 0 ≤ t293 then (if t293 < (t290.length : Int) then ((spec_l02Sort.f k (t290.set (t293 : Int).toNat (⟨rd y299 t302, (rd_T35 t290 t293).f1⟩ : S35))).bind fun t307 => (some (t307, t303, t304))) else (none)) else (none)) else (none)) else (none)) = some (r1, r2, r3) := H
  have A9 := aM A90
  clear A90
  by_cases c10 : 0 ≤ t302
  rotate_left
  ·rw [if_neg c10] at H
   exact absurd H (by simp)
  rw [if_pos c10] at H
  have c10b0 : decide (0 ≤ t302) = true := decide_eq_true c10
  clear c10
  by_cases c11 : t302 < (y299.length : Int)
  rotate_left
  ·rw [if_neg c11] at H
   exact absurd H (by simp)
  rw [if_pos c11] at H
  have c11b0 : decide (t302 < (y299.length : Int)) = true := decide_eq_true c11
  clear c11
  by_cases c12 : 0 ≤ t293
  rotate_left
  ·rw [if_neg c12] at H
   exact absurd H (by simp)
  rw [if_pos c12] at H
  have c12b0 : decide (0 ≤ t293) = true := decide_eq_true c12
  clear c12
  by_cases c13 : t293 < (t290.length : Int)
  rotate_left
  ·rw [if_neg c13] at H
   exact absurd H (by simp)
  rw [if_pos c13] at H
  have c13b0 : decide (t293 < (t290.length : Int)) = true := decide_eq_true c13
  clear c13
  obtain ⟨y306, hy306⟩ : ∃ y_ : List (S35), y_ = (t290.set (t293 : Int).toNat (⟨rd y299 t302, (rd_T35 t290 t293).f1⟩ : S35)) := ⟨_, rfl⟩
  replace H : ((spec_l02Sort.f k y306).bind fun t307 => (some (t307, t303, t304))) = some (r1, r2, r3) := zy H hy306
  have Ny306 := aM hy306
  clear hy306
  replace H := Option.bind_eq_some_iff.mp H
  obtain ⟨t307, A150, H⟩ := H
  replace H : (some (t307, t303, t304)) = some (r1, r2, r3) := H
  have A15 := aM A150
  clear A150
  simp only [Option.some.injEq, Prod.mk.injEq] at H
  obtain ⟨rfl, rfl, rfl⟩ := H
  go_enter Try.func34, Try.ntmps34
  go_wp2_with (first | ((with_reducible refine gate_callee (f := 40) rfl ?_); refine goesL_ (some 8) rfl rfl Try.func40 (by kernel_rfl) rfl #[.pointer (some ⟨g, 0, none⟩), .int .i64 8] rfl zm ?_; (with_reducible refine (spec_l02DrawPoly.calls k g s0_0 s0_1 s0_2 8 t279 t282 t283 w0 _ ?side1 ?side2 A2.out).mono ?_); (case side1 => exact zI56 HI0.out); (case side2 => exact zs (IsS56.ge HI0.out)); rintro e w16 ⟨v280, rfl, ho0, hi, hb, hk⟩; refine ⟨_, rfl, ?_⟩; have n0_ := aM (Kd.R_lower ho0 (keep_size (w := w) (g := g) (row := none) (zK HK.out))); have n1_ := aM (KeepBut.trans (zK HK.out) hk (.inl rfl)); have n2_ := aM (hb); have n3_ := aM (hi); clear HK HB HI0; have HO281 := n0_; have HK := n1_; have HB := n2_; have HI0 := n3_; clear n0_ n1_ n2_ n3_; (try clear hb); (try clear hb2); (try clear hk); (try clear hi); (try clear ho0)) | ((with_reducible refine gate_callee (f := 33) rfl ?_); refine goesL_ (some 10) rfl rfl Try.func33 (by kernel_rfl) rfl #[.pointer (some ⟨g, 0, none⟩), .int .i64 9] rfl zm ?_; (with_reducible refine (spec_l01Next.calls g s0_0 t282 t283 9 t284 t285 t286 w0 _ ?side1 ?side2 A3.out).mono ?_); (case side1 => exact zI56 HI0.out); (case side2 => exact zs (IsS56.ge HI0.out)); rintro e w17 ⟨rfl, hi, hb, hk⟩; refine ⟨_, rfl, ?_⟩; have n0_ := aM (Kd.R_mono (Kd.R_keep (IsS56.apart (show IsS56 w0 _ g s0_0 t282 t283 from zI56 HI0.out) (mR_ HO281.out) (by decide)) hk (fun _ h => h.2)) (fun _ h => h.1)); have n1_ := aM (KeepBut.trans (zK HK.out) hk (.inl rfl)); have n2_ := aM (hb); have n3_ := aM (hi); clear HO281 HK HB HI0; have HO281 := n0_; have HK := n1_; have HB := n2_; have HI0 := n3_; clear n0_ n1_ n2_ n3_; (try clear hb); (try clear hb2); (try clear hk); (try clear hi)) | ((with_reducible refine gate_callee (f := 33) rfl ?_); refine goesL_ (some 13) rfl rfl Try.func33 (by kernel_rfl) rfl #[.pointer (some ⟨g, 0, none⟩), .int .i64 9] rfl zm ?_; (with_reducible refine (spec_l01Next.calls g s0_0 t285 t286 9 t287 t288 t289 w0 _ ?side1 ?side2 A4.out).mono ?_); (case side1 => exact zI56 HI0.out); (case side2 => exact zs (IsS56.ge HI0.out)); rintro e w18 ⟨rfl, hi, hb, hk⟩; refine ⟨_, rfl, ?_⟩; have n0_ := aM (Kd.R_mono (Kd.R_keep (IsS56.apart (show IsS56 w0 _ g s0_0 t285 t286 from zI56 HI0.out) (mR_ HO281.out) (by decide)) hk (fun _ h => h.2)) (fun _ h => h.1)); have n1_ := aM (KeepBut.trans (zK HK.out) hk (.inl rfl)); have n2_ := aM (hb); have n3_ := aM (hi); clear HO281 HK HB HI0; have HO281 := n0_; have HK := n1_; have HB := n2_; have HI0 := n3_; clear n0_ n1_ n2_ n3_; (try clear hb); (try clear hb2); (try clear hk); (try clear hi); obtain ⟨Ao19, co19, eo19⟩ := Kd.R_slice HO281.out; subst eo19) | ((with_reducible refine gate_callee (f := 39) rfl ?_); refine goesL_ (some 15) rfl rfl Try.func39 (by kernel_rfl) rfl #[.slice Ao19 t279.length co19, .int .i64 (wrap64 (t284 - 4)), .int .i64 (wrap64 (t287 - 4))] rfl zm ?_; (with_reducible refine (spec_l02Move.calls k _ _ t279 (wrap64 (t284 - 4)) (wrap64 (t287 - 4)) t290 _ ?side1 ?side2 A5.out).mono ?_); (case side1 => exact zc HO281.out); (case side2 => exact (Kd.R_reads' HO281.out).2.1); rintro e w20 ⟨v291, rfl, ho0, hb⟩; refine ⟨_, rfl, ?_⟩; have n0_ := aM (Kd.R_elder' (mR_ HO281.out) (Kd.R_base ho0) hb); have n1_ := aM (Kd.R_lower (Kd.R_new' ho0 (Kd.R_lt (mR_ HO281.out))) (keep_size (w := w) (g := g) (row := none) (zK HK.out))); have n2_ := aM (IsS56.below (zI56 HI0.out) hb); have n3_ := aM (KeepBut.trans (zK HK.out) (KeepBut.of_below hb g none) (.inl rfl)); have n4_ := aM (below_step (zs (IsS56.ge HI0.out)) hb); clear HO281 HI0 HK HB; have HO281 := n0_; have HO292 := n1_; have HI0 := n2_; have HK := n3_; have HB := n4_; clear n0_ n1_ n2_ n3_ n4_; (try clear hb); (try clear hb2); (try clear hk); (try clear hi); (try clear ho0); obtain ⟨Ao21, co21, eo21⟩ := Kd.R_slice HO292.out; subst eo21) | ((with_reducible refine gate_callee (f := 33) rfl ?_); refine goesL_ (some 19) rfl rfl Try.func33 (by kernel_rfl) rfl #[.pointer (some ⟨g, 0, none⟩), .int .i64 (t290.length : Int)] rfl zm ?_; (with_reducible refine (spec_l01Next.calls g s0_0 t288 t289 (t290.length : Int) t293 t294 t295 w0 _ ?side1 ?side2 A6.out).mono ?_); (case side1 => exact zI56 HI0.out); (case side2 => exact zs (IsS56.ge HI0.out)); rintro e w22 ⟨rfl, hi, hb, hk⟩; refine ⟨_, rfl, ?_⟩; have n0_ := aM (Kd.R_mono (Kd.R_keep (IsS56.apart (show IsS56 w0 _ g s0_0 t288 t289 from zI56 HI0.out) (mR_ HO281.out) (by decide)) hk (fun _ h => h.2)) (fun _ h => h.1)); have n1_ := aM (Kd.R_mono (Kd.R_keep (IsS56.apart (show IsS56 w0 _ g s0_0 t288 t289 from zI56 HI0.out) (mR_ HO292.out) (by decide)) hk (fun _ h => h.2)) (fun _ h => h.1)); have n2_ := aM (KeepBut.trans (zK HK.out) hk (.inl rfl)); have n3_ := aM (hb); have n4_ := aM (hi); clear HO281 HO292 HK HB HI0; have HO281 := n0_; have HO292 := n1_; have HK := n2_; have HB := n3_; have HI0 := n4_; clear n0_ n1_ n2_ n3_ n4_; (try clear hb); (try clear hb2); (try clear hk); (try clear hi)) | ((with_reducible refine gate_callee (f := 33) rfl ?_); refine goesL_ (some 21) rfl rfl Try.func33 (by kernel_rfl) rfl #[.pointer (some ⟨g, 0, none⟩), .int .i64 24] rfl zm ?_; (with_reducible refine (spec_l01Next.calls g s0_0 t294 t295 24 t296 t297 t298 w0 _ ?side1 ?side2 A7.out).mono ?_); (case side1 => exact zI56 HI0.out); (case side2 => exact zs (IsS56.ge HI0.out)); rintro e w23 ⟨rfl, hi, hb, hk⟩; refine ⟨_, rfl, ?_⟩; have n0_ := aM (Kd.R_mono (Kd.R_keep (IsS56.apart (show IsS56 w0 _ g s0_0 t294 t295 from zI56 HI0.out) (mR_ HO281.out) (by decide)) hk (fun _ h => h.2)) (fun _ h => h.1)); have n1_ := aM (Kd.R_mono (Kd.R_keep (IsS56.apart (show IsS56 w0 _ g s0_0 t294 t295 from zI56 HI0.out) (mR_ HO292.out) (by decide)) hk (fun _ h => h.2)) (fun _ h => h.1)); have n2_ := aM (KeepBut.trans (zK HK.out) hk (.inl rfl)); have n3_ := aM (hb); have n4_ := aM (hi); clear HO281 HO292 HK HB HI0; have HO281 := n0_; have HO292 := n1_; have HK := n2_; have HB := n3_; have HI0 := n4_; clear n0_ n1_ n2_ n3_ n4_; (try clear hb); (try clear hb2); (try clear hk); (try clear hi)) | ((with_reducible refine gate_dst (N := 26) rfl ?_); refine Kd.R_lit (Kd.int .i64) _ 2 ?hg (N := 26) ?hd (xs := ([(-100), 100, 101] : List Int)) (inner := [.int .i64 (-100), .int .i64 100, .int .i64 101]) (ok := fun _ => True) (okp := fun _ => True) ?hr ?hp (fun _ hk => hk) trivial (Below.refl _ _) (Nat.le_refl _) (by simp) ?_; (case hd => rfl); (case hg => rfl); (case hr => first | (go_simp; done) | (go_simp; rfl)); (case hp => exact (Reps.one (show Kd.M (Kd.int .i64) _ _ _ (-100) [.int .i64 (-100)] from rfl) (Reps.one (show Kd.M (Kd.int .i64) _ _ _ 100 [.int .i64 100] from rfl) (Reps.one (show Kd.M (Kd.int .i64) _ _ _ 101 [.int .i64 101] from rfl) (Reps.none _ _))))); intro v300 w24 ho25 hb hg_ hnew_; clear hg_ hnew_; (first | rw [← Ny299.out] at ho25 | (simp only [Int.reduceToNat] at ho25; rw [← Ny299.out] at ho25)); have n0_ := aM (Kd.R_below (mR_ HO281.out) hb); have n1_ := aM (Kd.R_below (mR_ HO292.out) hb); have n2_ := aM (Kd.R_lower ho25 (keep_size (w := w) (g := g) (row := none) (zK HK.out))); have n3_ := aM (IsS56.below (zI56 HI0.out) hb); have n4_ := aM (KeepBut.trans (zK HK.out) (KeepBut.of_below hb g none) (.inl rfl)); have n5_ := aM (below_step (zs (IsS56.ge HI0.out)) hb); clear HO281 HO292 HI0 HK HB; have HO281 := n0_; have HO292 := n1_; have HO301 := n2_; have HI0 := n3_; have HK := n4_; have HB := n5_; clear n0_ n1_ n2_ n3_ n4_ n5_; clear hb ho25) | ((with_reducible refine gate_callee (f := 33) rfl ?_); refine goesL_ (some 28) rfl rfl Try.func33 (by kernel_rfl) rfl #[.pointer (some ⟨g, 0, none⟩), .int .i64 3] rfl zm ?_; (with_reducible refine (spec_l01Next.calls g s0_0 t297 t298 3 t302 t303 t304 w0 _ ?side1 ?side2 A9.out).mono ?_); (case side1 => exact zI56 HI0.out); (case side2 => exact zs (IsS56.ge HI0.out)); rintro e w26 ⟨rfl, hi, hb, hk⟩; refine ⟨_, rfl, ?_⟩; have n0_ := aM (Kd.R_mono (Kd.R_keep (IsS56.apart (show IsS56 w0 _ g s0_0 t297 t298 from zI56 HI0.out) (mR_ HO281.out) (by decide)) hk (fun _ h => h.2)) (fun _ h => h.1)); have n1_ := aM (Kd.R_mono (Kd.R_keep (IsS56.apart (show IsS56 w0 _ g s0_0 t297 t298 from zI56 HI0.out) (mR_ HO292.out) (by decide)) hk (fun _ h => h.2)) (fun _ h => h.1)); have n2_ := aM (Kd.R_mono (Kd.R_keep (IsS56.apart (show IsS56 w0 _ g s0_0 t297 t298 from zI56 HI0.out) (mR_ HO301.out) (by decide)) hk (fun _ h => h.2)) (fun _ h => h.1)); have n3_ := aM (KeepBut.trans (zK HK.out) hk (.inl rfl)); have n4_ := aM (hb); have n5_ := aM (hi); clear HO281 HO292 HO301 HK HB HI0; have HO281 := n0_; have HO292 := n1_; have HO301 := n2_; have HK := n3_; have HB := n4_; have HI0 := n5_; clear n0_ n1_ n2_ n3_ n4_ n5_; (try clear hb); (try clear hb2); (try clear hk); (try clear hi); obtain ⟨Ao27, co27, eo27⟩ := Kd.R_slice HO301.out; subst eo27; have p305 : 0 ≤ (t302 : Int) := of_decide_eq_true za; have q305 : t302 < (y299.length : Int) := of_decide_eq_true za; obtain ⟨ad305, e305, hx305_0⟩ := Kd.at_int (Kd.R_reads' HO301.out).2.2 t302 p305 q305; cases e305; replace p305 := eq_true p305; replace q305 := eq_true q305; have p14 : 0 ≤ (t293 : Int) := of_decide_eq_true za; have q14 : (t293 : Int) < ((t290.length : Int) : Int) := of_decide_eq_true za; obtain ⟨go14, co14, eo14, gb14, gl14, cl14, HG14⟩ := Kd.R_form HO292.out (by omega); (first | cases eo14 | (injection eo14 with ea_ en_ ec_; (first | subst ea_ | (injection ea_ with ea_; subst ea_)); subst ec_; clear en_)); have GB14 := aM gb14; have GG14 := aM HG14; clear gb14 gl14 HG14; obtain ⟨ce14, hcl14, hM14, hcc14, hfr14⟩ := Kd.R_elem HO292.out z35 (t293 : Int) p14 q14; obtain rfl := k35_openM hM14; have hx14_0 : w26.cell? ⟨go14, (t293 : Int).toNat * 2, none⟩ = some (.int .i64 ((rd_T35 t290 t293).f0)) := hcc14 0 _ rfl; have hx14_1 : w26.cell? ⟨go14, (t293 : Int).toNat * 2 + 1, none⟩ = some (.int .i64 ((rd_T35 t290 t293).f1)) := hcc14 1 _ rfl; have hf14_0 : w26.frozen? ⟨go14, (t293 : Int).toNat * 2, none⟩ = false := hfr14 0; have hf14_1 : w26.frozen? ⟨go14, (t293 : Int).toNat * 2 + 1, none⟩ = false := hfr14 1; clear hcl14 hcc14 hfr14 hM14; replace p14 := eq_true p14; replace q14 := eq_true q14; have n_ := aM (Kd.R_mono (ok' := (fun k_ => some k_ ≠ (.slice Ao19 t279.length co19 : Value).ownBlock)) HO292.out (fun k_ hk => hk.2)); clear HO292; have HO292 := n_; clear n_; have HX28 := aM (show Kd.R k35 35 w26 w.heap.size (fun k_ => some k_ ≠ (.slice Ao19 t279.length co19 : Value).ownBlock) (.slice (some ⟨go14, 0, none⟩) t290.length co21) t290 from (mR_ HO292.out)); obtain ⟨ce28, hcl28, hM28, hcc28, hfr28⟩ := Kd.R_elem HX28.out z35 (t293 : Int) (of_decide_eq_true za) (by have h_ : (t293 : Int) < ((t290.length : Int) : Int) := of_decide_eq_true za; first | exact h_ | (have e_ := (Kd.R_reads' HO292.out).1; omega) | simpa using h_); obtain rfl := k35_openM hM28; have HP28 := Kd.R_seg HX28.out (t293 : Int) (of_decide_eq_true za) (by have h_ : (t293 : Int) < ((t290.length : Int) : Int) := of_decide_eq_true za; first | exact h_ | (have e_ := (Kd.R_reads' HO292.out).1; omega) | simpa using h_) (seg := [.int .i64 (rd y299 t302)]) (j := 0) hcl28 hcc28 (show 1 ≤ 2 from by decide) (x' := (⟨rd y299 t302, (rd_T35 t290 t293).f1⟩ : S35)) (k35_mkM _ _ _ (⟨rd y299 t302, (rd_T35 t290 t293).f1⟩ : S35) ) (fun _ hk => hk); have hx28_0 := hcc28 0 _ rfl; (try simp only [show (k35).sz = 2 from rfl, Nat.mul_one, Nat.add_zero] at hx28_0); have hf28_0 := hfr28 0; (try simp only [show (k35).sz = 2 from rfl, Nat.mul_one, Nat.add_zero] at hf28_0); clear hcl28 hcc28 hfr28 hM28) | ((with_reducible refine gate_store (t := 2) (p := 32) rfl ?_); refine store_event (t := 2) (p := 32) (v := ?vo_w29) (w1 := (w26.setCell ⟨go14, (t293 : Int).toNat * 2, none⟩ (.int .i64 (rd y299 t302)))) ?hg ?ho ?hn ?hr ?_; (case ho => rfl); (case hg => rfl); (case hn => rfl); (case hr => first | (go_simp; done) | (go_simp; rfl)); intro w29 hw; have hg : w26.grownBy w29 (some go14) := (by rw [hw]; exact HP28.2); have hp_ : Kd.R k35 35 w29 w.heap.size (fun k_ => some k_ ≠ (.slice Ao19 t279.length co19 : Value).ownBlock) (.slice (some ⟨go14, 0, none⟩) t290.length co21) y306 := (by rw [hw, Ny306.out]; exact HP28.1); clear HP28; have n0_ := aM (IsS56.grown (zI56 HI0.out) hg (IsS56.own_ne HI0.out HO292.out (by decide))); have n1_ := aM (Kd.R_after (v := (.slice (some ⟨go14, 0, none⟩) t290.length co21)) (v1 := (.slice (some ⟨go14, 0, none⟩) t290.length co21)) (ok := (fun _ => True)) (mR_ HO281.out) hg (.inl rfl)); have n2_ := aM (hp_); have n3_ := aM (Kd.R_over' (v := (.slice (some ⟨go14, 0, none⟩) t290.length co21)) (mR_ HO301.out) (Kd.R_typed HO292.out) (by decide) hg); have n4_ := aM ((by rw [hw]; exact below_set (HB.out) (Nat.le_trans HL.out GB14.out) : Below w0.heap.size w0 w29)); have n5_ := aM (KeepBut.trans (zK HK.out) (KeepBut.of_grown hg g) (Kd.R_base2 HO292.out)); clear HI0 HO281 HO292 HO301 HB HK; have HI0 := n0_; have HO281 := n1_; have HO292 := n2_; have HO301 := n3_; have HB := n4_; have HK := n5_; clear n0_ n1_ n2_ n3_ n4_ n5_; clear hg hw hp_) | ((with_reducible refine gate_callee (f := 41) rfl ?_); refine goesL_ (some 34) rfl rfl Try.func41 (by kernel_rfl) rfl #[.slice (some ⟨go14, 0, none⟩) y306.length co21] rfl (by (try simp only [mA, mB, mC]); first | done | (rw [show y306.length = t290.length from (Kd.R_reads' HO292.out).1.symm] <;> rfl) | rfl | (simp only [lD, lT]; rfl)) ?_; (with_reducible refine (spec_l02Sort.calls k _ _ y306 t307 _ ?side1 ?side2 A15.out).mono ?_); (case side1 => exact zc HO292.out); (case side2 => rw [show y306.length = t290.length from (Kd.R_reads' HO292.out).1.symm]; exact (Kd.R_reads' HO292.out).2.1); rintro e w30 ⟨v308, rfl, ho0, hb⟩; refine ⟨_, rfl, ?_⟩; have n0_ := aM (Kd.R_elder' (mR_ HO281.out) (Kd.R_base ho0) hb); have n1_ := aM (Kd.R_elder' (mR_ HO292.out) (Kd.R_base ho0) hb); have n2_ := aM (Kd.R_below (mR_ HO301.out) hb); have n3_ := aM (Kd.R_lower (Kd.R_new' (Kd.R_new' ho0 (Kd.R_lt (mR_ HO281.out))) (Kd.R_lt (mR_ HO292.out))) (keep_size (w := w) (g := g) (row := none) (zK HK.out))); have n4_ := aM (IsS56.below (zI56 HI0.out) hb); have n5_ := aM (KeepBut.trans (zK HK.out) (KeepBut.of_below hb g none) (.inl rfl)); have n6_ := aM (below_step (zs (IsS56.ge HI0.out)) hb); clear HO281 HO292 HO301 HI0 HK HB; have HO281 := n0_; have HO292 := n1_; have HO301 := n2_; have HO309 := n3_; have HI0 := n4_; have HK := n5_; have HB := n6_; clear n0_ n1_ n2_ n3_ n4_ n5_ n6_; (try clear hb); (try clear hb2); (try clear hk); (try clear hi); (try clear ho0)))
  go_ret
  exact ⟨_, zw, zd2 HO309.out, zI56 HI0.out, zs (IsS56.ge HI0.out), zK HK.out⟩
 rw [if_neg c8] at H
 have c8b0 : (t296 == 0) = false := beq_eq_false_iff_ne.mpr c8
 have c8b1 : (t296 != 0) = true := bne_iff_ne.mpr c8
 by_cases c31 : t296 = 1
 ·rw [if_pos c31] at H
  have c31b0 : (t296 == 1) = true := beq_iff_eq.mpr c31
  have c31b1 : (t296 != 1) = false := bne_eq_false_iff_eq.mpr c31
  clear c31
  by_cases c32 : 0 ≤ t293
  rotate_left
  ·rw [if_neg c32] at H
   exact absurd H (by simp)
  rw [if_pos c32] at H
  have c32b0 : decide (0 ≤ t293) = true := decide_eq_true c32
  clear c32
  by_cases c33 : t293 < (t290.length : Int)
  rotate_left
  ·rw [if_neg c33] at H
   exact absurd H (by simp)
  rw [if_pos c33] at H
  have c33b0 : decide (t293 < (t290.length : Int)) = true := decide_eq_true c33
  clear c33
  by_cases c34 : t290.length < 8796093022208
  rotate_left
  ·rw [if_neg c34] at H
   exact absurd H (by simp)
  rw [if_pos c34] at H
  have LMc34 := aM c34
  clear c34
  obtain ⟨y311, hy311⟩ : ∃ y_ : List (S35), y_ = (t290 ++ [(⟨(rd_T35 t290 t293).f0, (rd_T35 t290 t293).f1⟩ : S35)]) := ⟨_, rfl⟩
  replace H : (some (y311, t297, t298)) = some (r1, r2, r3) := zy H hy311
  have Ny311 := aM hy311
  clear hy311
  simp only [Option.some.injEq, Prod.mk.injEq] at H
  obtain ⟨rfl, rfl, rfl⟩ := H
  go_enter Try.func34, Try.ntmps34
  go_wp2_with (first | ((with_reducible refine gate_callee (f := 40) rfl ?_); refine goesL_ (some 8) rfl rfl Try.func40 (by kernel_rfl) rfl #[.pointer (some ⟨g, 0, none⟩), .int .i64 8] rfl zm ?_; (with_reducible refine (spec_l02DrawPoly.calls k g s0_0 s0_1 s0_2 8 t279 t282 t283 w0 _ ?side1 ?side2 A2.out).mono ?_); (case side1 => exact zI56 HI0.out); (case side2 => exact zs (IsS56.ge HI0.out)); rintro e w35 ⟨v280, rfl, ho0, hi, hb, hk⟩; refine ⟨_, rfl, ?_⟩; have n0_ := aM (Kd.R_lower ho0 (keep_size (w := w) (g := g) (row := none) (zK HK.out))); have n1_ := aM (KeepBut.trans (zK HK.out) hk (.inl rfl)); have n2_ := aM (hb); have n3_ := aM (hi); clear HK HB HI0; have HO281 := n0_; have HK := n1_; have HB := n2_; have HI0 := n3_; clear n0_ n1_ n2_ n3_; (try clear hb); (try clear hb2); (try clear hk); (try clear hi); (try clear ho0)) | ((with_reducible refine gate_callee (f := 33) rfl ?_); refine goesL_ (some 10) rfl rfl Try.func33 (by kernel_rfl) rfl #[.pointer (some ⟨g, 0, none⟩), .int .i64 9] rfl zm ?_; (with_reducible refine (spec_l01Next.calls g s0_0 t282 t283 9 t284 t285 t286 w0 _ ?side1 ?side2 A3.out).mono ?_); (case side1 => exact zI56 HI0.out); (case side2 => exact zs (IsS56.ge HI0.out)); rintro e w36 ⟨rfl, hi, hb, hk⟩; refine ⟨_, rfl, ?_⟩; have n0_ := aM (Kd.R_mono (Kd.R_keep (IsS56.apart (show IsS56 w0 _ g s0_0 t282 t283 from zI56 HI0.out) (mR_ HO281.out) (by decide)) hk (fun _ h => h.2)) (fun _ h => h.1)); have n1_ := aM (KeepBut.trans (zK HK.out) hk (.inl rfl)); have n2_ := aM (hb); have n3_ := aM (hi); clear HO281 HK HB HI0; have HO281 := n0_; have HK := n1_; have HB := n2_; have HI0 := n3_; clear n0_ n1_ n2_ n3_; (try clear hb); (try clear hb2); (try clear hk); (try clear hi)) | ((with_reducible refine gate_callee (f := 33) rfl ?_); refine goesL_ (some 13) rfl rfl Try.func33 (by kernel_rfl) rfl #[.pointer (some ⟨g, 0, none⟩), .int .i64 9] rfl zm ?_; (with_reducible refine (spec_l01Next.calls g s0_0 t285 t286 9 t287 t288 t289 w0 _ ?side1 ?side2 A4.out).mono ?_); (case side1 => exact zI56 HI0.out); (case side2 => exact zs (IsS56.ge HI0.out)); rintro e w37 ⟨rfl, hi, hb, hk⟩; refine ⟨_, rfl, ?_⟩; have n0_ := aM (Kd.R_mono (Kd.R_keep (IsS56.apart (show IsS56 w0 _ g s0_0 t285 t286 from zI56 HI0.out) (mR_ HO281.out) (by decide)) hk (fun _ h => h.2)) (fun _ h => h.1)); have n1_ := aM (KeepBut.trans (zK HK.out) hk (.inl rfl)); have n2_ := aM (hb); have n3_ := aM (hi); clear HO281 HK HB HI0; have HO281 := n0_; have HK := n1_; have HB := n2_; have HI0 := n3_; clear n0_ n1_ n2_ n3_; (try clear hb); (try clear hb2); (try clear hk); (try clear hi); obtain ⟨Ao38, co38, eo38⟩ := Kd.R_slice HO281.out; subst eo38) | ((with_reducible refine gate_callee (f := 39) rfl ?_); refine goesL_ (some 15) rfl rfl Try.func39 (by kernel_rfl) rfl #[.slice Ao38 t279.length co38, .int .i64 (wrap64 (t284 - 4)), .int .i64 (wrap64 (t287 - 4))] rfl zm ?_; (with_reducible refine (spec_l02Move.calls k _ _ t279 (wrap64 (t284 - 4)) (wrap64 (t287 - 4)) t290 _ ?side1 ?side2 A5.out).mono ?_); (case side1 => exact zc HO281.out); (case side2 => exact (Kd.R_reads' HO281.out).2.1); rintro e w39 ⟨v291, rfl, ho0, hb⟩; refine ⟨_, rfl, ?_⟩; have n0_ := aM (Kd.R_elder' (mR_ HO281.out) (Kd.R_base ho0) hb); have n1_ := aM (Kd.R_lower (Kd.R_new' ho0 (Kd.R_lt (mR_ HO281.out))) (keep_size (w := w) (g := g) (row := none) (zK HK.out))); have n2_ := aM (IsS56.below (zI56 HI0.out) hb); have n3_ := aM (KeepBut.trans (zK HK.out) (KeepBut.of_below hb g none) (.inl rfl)); have n4_ := aM (below_step (zs (IsS56.ge HI0.out)) hb); clear HO281 HI0 HK HB; have HO281 := n0_; have HO292 := n1_; have HI0 := n2_; have HK := n3_; have HB := n4_; clear n0_ n1_ n2_ n3_ n4_; (try clear hb); (try clear hb2); (try clear hk); (try clear hi); (try clear ho0); obtain ⟨Ao40, co40, eo40⟩ := Kd.R_slice HO292.out; subst eo40) | ((with_reducible refine gate_callee (f := 33) rfl ?_); refine goesL_ (some 19) rfl rfl Try.func33 (by kernel_rfl) rfl #[.pointer (some ⟨g, 0, none⟩), .int .i64 (t290.length : Int)] rfl zm ?_; (with_reducible refine (spec_l01Next.calls g s0_0 t288 t289 (t290.length : Int) t293 t294 t295 w0 _ ?side1 ?side2 A6.out).mono ?_); (case side1 => exact zI56 HI0.out); (case side2 => exact zs (IsS56.ge HI0.out)); rintro e w41 ⟨rfl, hi, hb, hk⟩; refine ⟨_, rfl, ?_⟩; have n0_ := aM (Kd.R_mono (Kd.R_keep (IsS56.apart (show IsS56 w0 _ g s0_0 t288 t289 from zI56 HI0.out) (mR_ HO281.out) (by decide)) hk (fun _ h => h.2)) (fun _ h => h.1)); have n1_ := aM (Kd.R_mono (Kd.R_keep (IsS56.apart (show IsS56 w0 _ g s0_0 t288 t289 from zI56 HI0.out) (mR_ HO292.out) (by decide)) hk (fun _ h => h.2)) (fun _ h => h.1)); have n2_ := aM (KeepBut.trans (zK HK.out) hk (.inl rfl)); have n3_ := aM (hb); have n4_ := aM (hi); clear HO281 HO292 HK HB HI0; have HO281 := n0_; have HO292 := n1_; have HK := n2_; have HB := n3_; have HI0 := n4_; clear n0_ n1_ n2_ n3_ n4_; (try clear hb); (try clear hb2); (try clear hk); (try clear hi)) | ((with_reducible refine gate_callee (f := 33) rfl ?_); refine goesL_ (some 21) rfl rfl Try.func33 (by kernel_rfl) rfl #[.pointer (some ⟨g, 0, none⟩), .int .i64 24] rfl zm ?_; (with_reducible refine (spec_l01Next.calls g s0_0 t294 t295 24 t296 t297 t298 w0 _ ?side1 ?side2 A7.out).mono ?_); (case side1 => exact zI56 HI0.out); (case side2 => exact zs (IsS56.ge HI0.out)); rintro e w42 ⟨rfl, hi, hb, hk⟩; refine ⟨_, rfl, ?_⟩; have n0_ := aM (Kd.R_mono (Kd.R_keep (IsS56.apart (show IsS56 w0 _ g s0_0 t294 t295 from zI56 HI0.out) (mR_ HO281.out) (by decide)) hk (fun _ h => h.2)) (fun _ h => h.1)); have n1_ := aM (Kd.R_mono (Kd.R_keep (IsS56.apart (show IsS56 w0 _ g s0_0 t294 t295 from zI56 HI0.out) (mR_ HO292.out) (by decide)) hk (fun _ h => h.2)) (fun _ h => h.1)); have n2_ := aM (KeepBut.trans (zK HK.out) hk (.inl rfl)); have n3_ := aM (hb); have n4_ := aM (hi); clear HO281 HO292 HK HB HI0; have HO281 := n0_; have HO292 := n1_; have HK := n2_; have HB := n3_; have HI0 := n4_; clear n0_ n1_ n2_ n3_ n4_; (try clear hb); (try clear hb2); (try clear hk); (try clear hi); have p310 : 0 ≤ (t293 : Int) := of_decide_eq_true za; have q310 : t293 < (t290.length : Int) := of_decide_eq_true za; obtain ⟨ad310, e310, hx310_0, hx310_1⟩ := at_T35 (Kd.R_reads' HO292.out).2.2 t293 p310 q310; cases e310; replace p310 := eq_true p310; replace q310 := eq_true q310) | ((with_reducible refine gate_builtin (b := .append) (xs := #[.tmp 37, .tmp 42]) rfl ?_); at_builtin; refine Kd.R_append k35 w.heap.size rfl (.tmp 37) (.tmp 42) 26 35 (.agg #[(.int .i64 0), (.int .i64 0)]) 16 rfl Try.underlying26 info35 rfl (by decide) (by omega) (.slice (some ad310) t290.length co40) t290 (⟨(rd_T35 t290 t293).f0, (rd_T35 t290 t293).f1⟩ : S35) [.int .i64 ((rd_T35 t290 t293).f0), .int .i64 ((rd_T35 t290 t293).f1)] (fun k_ => some k_ ≠ (.slice Ao38 t279.length co38 : Value).ownBlock) (fun _ => False) rfl rfl ?aP (fun _ hk => hk.elim) ?aF ?aO (Below.refl _ _) ?aS ?aL ?_; (case aP => exact k35_mkM _ _ _ (⟨(rd_T35 t290 t293).f0, (rd_T35 t290 t293).f1⟩ : S35)); (case aF => exact (fun k_ hk => Kd.fresh' (Kd.R_lt (mR_ HO281.out)) k_ hk)); (case aO => exact (zd4 HO292.out)); (case aS => exact (keep_size (w := w) (g := g) (row := none) (zK HK.out))); (case aL => have := LMc34.out; omega); intro v312 w43 ho hb hg hat; rw [← Ny311.out] at ho; have n0_ := aM (IsS56.grown (zI56 HI0.out) hg (IsS56.own_ne HI0.out HO292.out (by decide))); have n1_ := aM (Kd.R_after (ok := (fun _ => True)) (mR_ HO281.out) hg hat); have n2_ := aM (below_weaken (zs (IsS56.ge HI0.out)) HL.out hb); have n3_ := aM (KeepBut.trans (zK HK.out) (KeepBut.of_grown hg g) (Kd.R_base2 HO292.out)); have n4_ := aM (ho); clear HI0 HO281 HB HK HO292; have HI0 := n0_; have HO281 := n1_; have HB := n2_; have HK := n3_; have HO313 := n4_; clear n0_ n1_ n2_ n3_ n4_; clear ho hb hg hat))
  go_ret
  exact ⟨_, zw, zd2 HO313.out, zI56 HI0.out, zs (IsS56.ge HI0.out), zK HK.out⟩
 rw [if_neg c31] at H
 have c31b0 : (t296 == 1) = false := beq_eq_false_iff_ne.mpr c31
 have c31b1 : (t296 != 1) = true := bne_iff_ne.mpr c31
 by_cases c44 : t296 = 2
 ·rw [if_pos c44] at H
  have c44b0 : (t296 == 2) = true := beq_iff_eq.mpr c44
  have c44b1 : (t296 != 2) = false := bne_eq_false_iff_eq.mpr c44
  clear c44
  simp only [Option.some.injEq, Prod.mk.injEq] at H
  obtain ⟨rfl, rfl, rfl⟩ := H
  go_enter Try.func34, Try.ntmps34
  go_wp2_with (first | ((with_reducible refine gate_callee (f := 40) rfl ?_); refine goesL_ (some 8) rfl rfl Try.func40 (by kernel_rfl) rfl #[.pointer (some ⟨g, 0, none⟩), .int .i64 8] rfl zm ?_; (with_reducible refine (spec_l02DrawPoly.calls k g s0_0 s0_1 s0_2 8 t279 t282 t283 w0 _ ?side1 ?side2 A2.out).mono ?_); (case side1 => exact zI56 HI0.out); (case side2 => exact zs (IsS56.ge HI0.out)); rintro e w45 ⟨v280, rfl, ho0, hi, hb, hk⟩; refine ⟨_, rfl, ?_⟩; have n0_ := aM (Kd.R_lower ho0 (keep_size (w := w) (g := g) (row := none) (zK HK.out))); have n1_ := aM (KeepBut.trans (zK HK.out) hk (.inl rfl)); have n2_ := aM (hb); have n3_ := aM (hi); clear HK HB HI0; have HO281 := n0_; have HK := n1_; have HB := n2_; have HI0 := n3_; clear n0_ n1_ n2_ n3_; (try clear hb); (try clear hb2); (try clear hk); (try clear hi); (try clear ho0)) | ((with_reducible refine gate_callee (f := 33) rfl ?_); refine goesL_ (some 10) rfl rfl Try.func33 (by kernel_rfl) rfl #[.pointer (some ⟨g, 0, none⟩), .int .i64 9] rfl zm ?_; (with_reducible refine (spec_l01Next.calls g s0_0 t282 t283 9 t284 t285 t286 w0 _ ?side1 ?side2 A3.out).mono ?_); (case side1 => exact zI56 HI0.out); (case side2 => exact zs (IsS56.ge HI0.out)); rintro e w46 ⟨rfl, hi, hb, hk⟩; refine ⟨_, rfl, ?_⟩; have n0_ := aM (Kd.R_mono (Kd.R_keep (IsS56.apart (show IsS56 w0 _ g s0_0 t282 t283 from zI56 HI0.out) (mR_ HO281.out) (by decide)) hk (fun _ h => h.2)) (fun _ h => h.1)); have n1_ := aM (KeepBut.trans (zK HK.out) hk (.inl rfl)); have n2_ := aM (hb); have n3_ := aM (hi); clear HO281 HK HB HI0; have HO281 := n0_; have HK := n1_; have HB := n2_; have HI0 := n3_; clear n0_ n1_ n2_ n3_; (try clear hb); (try clear hb2); (try clear hk); (try clear hi)) | ((with_reducible refine gate_callee (f := 33) rfl ?_); refine goesL_ (some 13) rfl rfl Try.func33 (by kernel_rfl) rfl #[.pointer (some ⟨g, 0, none⟩), .int .i64 9] rfl zm ?_; (with_reducible refine (spec_l01Next.calls g s0_0 t285 t286 9 t287 t288 t289 w0 _ ?side1 ?side2 A4.out).mono ?_); (case side1 => exact zI56 HI0.out); (case side2 => exact zs (IsS56.ge HI0.out)); rintro e w47 ⟨rfl, hi, hb, hk⟩; refine ⟨_, rfl, ?_⟩; have n0_ := aM (Kd.R_mono (Kd.R_keep (IsS56.apart (show IsS56 w0 _ g s0_0 t285 t286 from zI56 HI0.out) (mR_ HO281.out) (by decide)) hk (fun _ h => h.2)) (fun _ h => h.1)); have n1_ := aM (KeepBut.trans (zK HK.out) hk (.inl rfl)); have n2_ := aM (hb); have n3_ := aM (hi); clear HO281 HK HB HI0; have HO281 := n0_; have HK := n1_; have HB := n2_; have HI0 := n3_; clear n0_ n1_ n2_ n3_; (try clear hb); (try clear hb2); (try clear hk); (try clear hi); obtain ⟨Ao48, co48, eo48⟩ := Kd.R_slice HO281.out; subst eo48) | ((with_reducible refine gate_callee (f := 39) rfl ?_); refine goesL_ (some 15) rfl rfl Try.func39 (by kernel_rfl) rfl #[.slice Ao48 t279.length co48, .int .i64 (wrap64 (t284 - 4)), .int .i64 (wrap64 (t287 - 4))] rfl zm ?_; (with_reducible refine (spec_l02Move.calls k _ _ t279 (wrap64 (t284 - 4)) (wrap64 (t287 - 4)) t290 _ ?side1 ?side2 A5.out).mono ?_); (case side1 => exact zc HO281.out); (case side2 => exact (Kd.R_reads' HO281.out).2.1); rintro e w49 ⟨v291, rfl, ho0, hb⟩; refine ⟨_, rfl, ?_⟩; have n0_ := aM (Kd.R_elder' (mR_ HO281.out) (Kd.R_base ho0) hb); have n1_ := aM (Kd.R_lower (Kd.R_new' ho0 (Kd.R_lt (mR_ HO281.out))) (keep_size (w := w) (g := g) (row := none) (zK HK.out))); have n2_ := aM (IsS56.below (zI56 HI0.out) hb); have n3_ := aM (KeepBut.trans (zK HK.out) (KeepBut.of_below hb g none) (.inl rfl)); have n4_ := aM (below_step (zs (IsS56.ge HI0.out)) hb); clear HO281 HI0 HK HB; have HO281 := n0_; have HO292 := n1_; have HI0 := n2_; have HK := n3_; have HB := n4_; clear n0_ n1_ n2_ n3_ n4_; (try clear hb); (try clear hb2); (try clear hk); (try clear hi); (try clear ho0); obtain ⟨Ao50, co50, eo50⟩ := Kd.R_slice HO292.out; subst eo50) | ((with_reducible refine gate_callee (f := 33) rfl ?_); refine goesL_ (some 19) rfl rfl Try.func33 (by kernel_rfl) rfl #[.pointer (some ⟨g, 0, none⟩), .int .i64 (t290.length : Int)] rfl zm ?_; (with_reducible refine (spec_l01Next.calls g s0_0 t288 t289 (t290.length : Int) t293 t294 t295 w0 _ ?side1 ?side2 A6.out).mono ?_); (case side1 => exact zI56 HI0.out); (case side2 => exact zs (IsS56.ge HI0.out)); rintro e w51 ⟨rfl, hi, hb, hk⟩; refine ⟨_, rfl, ?_⟩; have n0_ := aM (Kd.R_mono (Kd.R_keep (IsS56.apart (show IsS56 w0 _ g s0_0 t288 t289 from zI56 HI0.out) (mR_ HO281.out) (by decide)) hk (fun _ h => h.2)) (fun _ h => h.1)); have n1_ := aM (Kd.R_mono (Kd.R_keep (IsS56.apart (show IsS56 w0 _ g s0_0 t288 t289 from zI56 HI0.out) (mR_ HO292.out) (by decide)) hk (fun _ h => h.2)) (fun _ h => h.1)); have n2_ := aM (KeepBut.trans (zK HK.out) hk (.inl rfl)); have n3_ := aM (hb); have n4_ := aM (hi); clear HO281 HO292 HK HB HI0; have HO281 := n0_; have HO292 := n1_; have HK := n2_; have HB := n3_; have HI0 := n4_; clear n0_ n1_ n2_ n3_ n4_; (try clear hb); (try clear hb2); (try clear hk); (try clear hi)) | ((with_reducible refine gate_callee (f := 33) rfl ?_); refine goesL_ (some 21) rfl rfl Try.func33 (by kernel_rfl) rfl #[.pointer (some ⟨g, 0, none⟩), .int .i64 24] rfl zm ?_; (with_reducible refine (spec_l01Next.calls g s0_0 t294 t295 24 t296 t297 t298 w0 _ ?side1 ?side2 A7.out).mono ?_); (case side1 => exact zI56 HI0.out); (case side2 => exact zs (IsS56.ge HI0.out)); rintro e w52 ⟨rfl, hi, hb, hk⟩; refine ⟨_, rfl, ?_⟩; have n0_ := aM (Kd.R_mono (Kd.R_keep (IsS56.apart (show IsS56 w0 _ g s0_0 t294 t295 from zI56 HI0.out) (mR_ HO281.out) (by decide)) hk (fun _ h => h.2)) (fun _ h => h.1)); have n1_ := aM (Kd.R_mono (Kd.R_keep (IsS56.apart (show IsS56 w0 _ g s0_0 t294 t295 from zI56 HI0.out) (mR_ HO292.out) (by decide)) hk (fun _ h => h.2)) (fun _ h => h.1)); have n2_ := aM (KeepBut.trans (zK HK.out) hk (.inl rfl)); have n3_ := aM (hb); have n4_ := aM (hi); clear HO281 HO292 HK HB HI0; have HO281 := n0_; have HO292 := n1_; have HK := n2_; have HB := n3_; have HI0 := n4_; clear n0_ n1_ n2_ n3_ n4_; (try clear hb); (try clear hb2); (try clear hk); (try clear hi)))
  go_ret
  exact ⟨_, zw, by first | exact Kd.R_nil _ _ _ _ _ | exact Kd.N_nil _ _ _ _ _ | exact Kd.V_nil _ _ _ _ _ | exact Kd.Q_nil _ _ _ _ _ | exact Kd.S_nil _ _ _ _ _, zI56 HI0.out, zs (IsS56.ge HI0.out), zK HK.out⟩
 rw [if_neg c44] at H
 have c44b0 : (t296 == 2) = false := beq_eq_false_iff_ne.mpr c44
 have c44b1 : (t296 != 2) = true := bne_iff_ne.mpr c44
 by_cases c53 : t296 = 3
 ·rw [if_pos c53] at H
  have c53b0 : (t296 == 3) = true := beq_iff_eq.mpr c53
  have c53b1 : (t296 != 3) = false := bne_eq_false_iff_eq.mpr c53
  clear c53
  obtain ⟨y314, hy314⟩ : ∃ y_ : List (S35), y_ = (([] : List (S35))) := ⟨_, rfl⟩
  replace H : (spec_l02Draw.l0 k y314 0 s0_0 t297 t298) = some (r1, r2, r3) := zy H hy314
  have Ny314 := aM hy314
  clear hy314
  have H' := aM H
  clear H
  go_enter Try.func34, Try.ntmps34
  go_wp2_with (first | ((with_reducible refine gate_callee (f := 40) rfl ?_); refine goesL_ (some 8) rfl rfl Try.func40 (by kernel_rfl) rfl #[.pointer (some ⟨g, 0, none⟩), .int .i64 8] rfl zm ?_; (with_reducible refine (spec_l02DrawPoly.calls k g s0_0 s0_1 s0_2 8 t279 t282 t283 w0 _ ?side1 ?side2 A2.out).mono ?_); (case side1 => exact zI56 HI0.out); (case side2 => exact zs (IsS56.ge HI0.out)); rintro e w54 ⟨v280, rfl, ho0, hi, hb, hk⟩; refine ⟨_, rfl, ?_⟩; have n0_ := aM (Kd.R_lower ho0 (keep_size (w := w) (g := g) (row := none) (zK HK.out))); have n1_ := aM (KeepBut.trans (zK HK.out) hk (.inl rfl)); have n2_ := aM (hb); have n3_ := aM (hi); clear HK HB HI0; have HO281 := n0_; have HK := n1_; have HB := n2_; have HI0 := n3_; clear n0_ n1_ n2_ n3_; (try clear hb); (try clear hb2); (try clear hk); (try clear hi); (try clear ho0)) | ((with_reducible refine gate_callee (f := 33) rfl ?_); refine goesL_ (some 10) rfl rfl Try.func33 (by kernel_rfl) rfl #[.pointer (some ⟨g, 0, none⟩), .int .i64 9] rfl zm ?_; (with_reducible refine (spec_l01Next.calls g s0_0 t282 t283 9 t284 t285 t286 w0 _ ?side1 ?side2 A3.out).mono ?_); (case side1 => exact zI56 HI0.out); (case side2 => exact zs (IsS56.ge HI0.out)); rintro e w55 ⟨rfl, hi, hb, hk⟩; refine ⟨_, rfl, ?_⟩; have n0_ := aM (Kd.R_mono (Kd.R_keep (IsS56.apart (show IsS56 w0 _ g s0_0 t282 t283 from zI56 HI0.out) (mR_ HO281.out) (by decide)) hk (fun _ h => h.2)) (fun _ h => h.1)); have n1_ := aM (KeepBut.trans (zK HK.out) hk (.inl rfl)); have n2_ := aM (hb); have n3_ := aM (hi); clear HO281 HK HB HI0; have HO281 := n0_; have HK := n1_; have HB := n2_; have HI0 := n3_; clear n0_ n1_ n2_ n3_; (try clear hb); (try clear hb2); (try clear hk); (try clear hi)) | ((with_reducible refine gate_callee (f := 33) rfl ?_); refine goesL_ (some 13) rfl rfl Try.func33 (by kernel_rfl) rfl #[.pointer (some ⟨g, 0, none⟩), .int .i64 9] rfl zm ?_; (with_reducible refine (spec_l01Next.calls g s0_0 t285 t286 9 t287 t288 t289 w0 _ ?side1 ?side2 A4.out).mono ?_); (case side1 => exact zI56 HI0.out); (case side2 => exact zs (IsS56.ge HI0.out)); rintro e w56 ⟨rfl, hi, hb, hk⟩; refine ⟨_, rfl, ?_⟩; have n0_ := aM (Kd.R_mono (Kd.R_keep (IsS56.apart (show IsS56 w0 _ g s0_0 t285 t286 from zI56 HI0.out) (mR_ HO281.out) (by decide)) hk (fun _ h => h.2)) (fun _ h => h.1)); have n1_ := aM (KeepBut.trans (zK HK.out) hk (.inl rfl)); have n2_ := aM (hb); have n3_ := aM (hi); clear HO281 HK HB HI0; have HO281 := n0_; have HK := n1_; have HB := n2_; have HI0 := n3_; clear n0_ n1_ n2_ n3_; (try clear hb); (try clear hb2); (try clear hk); (try clear hi); obtain ⟨Ao57, co57, eo57⟩ := Kd.R_slice HO281.out; subst eo57) | ((with_reducible refine gate_callee (f := 39) rfl ?_); refine goesL_ (some 15) rfl rfl Try.func39 (by kernel_rfl) rfl #[.slice Ao57 t279.length co57, .int .i64 (wrap64 (t284 - 4)), .int .i64 (wrap64 (t287 - 4))] rfl zm ?_; (with_reducible refine (spec_l02Move.calls k _ _ t279 (wrap64 (t284 - 4)) (wrap64 (t287 - 4)) t290 _ ?side1 ?side2 A5.out).mono ?_); (case side1 => exact zc HO281.out); (case side2 => exact (Kd.R_reads' HO281.out).2.1); rintro e w58 ⟨v291, rfl, ho0, hb⟩; refine ⟨_, rfl, ?_⟩; have n0_ := aM (Kd.R_elder' (mR_ HO281.out) (Kd.R_base ho0) hb); have n1_ := aM (Kd.R_lower (Kd.R_new' ho0 (Kd.R_lt (mR_ HO281.out))) (keep_size (w := w) (g := g) (row := none) (zK HK.out))); have n2_ := aM (IsS56.below (zI56 HI0.out) hb); have n3_ := aM (KeepBut.trans (zK HK.out) (KeepBut.of_below hb g none) (.inl rfl)); have n4_ := aM (below_step (zs (IsS56.ge HI0.out)) hb); clear HO281 HI0 HK HB; have HO281 := n0_; have HO292 := n1_; have HI0 := n2_; have HK := n3_; have HB := n4_; clear n0_ n1_ n2_ n3_ n4_; (try clear hb); (try clear hb2); (try clear hk); (try clear hi); (try clear ho0); obtain ⟨Ao59, co59, eo59⟩ := Kd.R_slice HO292.out; subst eo59) | ((with_reducible refine gate_callee (f := 33) rfl ?_); refine goesL_ (some 19) rfl rfl Try.func33 (by kernel_rfl) rfl #[.pointer (some ⟨g, 0, none⟩), .int .i64 (t290.length : Int)] rfl zm ?_; (with_reducible refine (spec_l01Next.calls g s0_0 t288 t289 (t290.length : Int) t293 t294 t295 w0 _ ?side1 ?side2 A6.out).mono ?_); (case side1 => exact zI56 HI0.out); (case side2 => exact zs (IsS56.ge HI0.out)); rintro e w60 ⟨rfl, hi, hb, hk⟩; refine ⟨_, rfl, ?_⟩; have n0_ := aM (Kd.R_mono (Kd.R_keep (IsS56.apart (show IsS56 w0 _ g s0_0 t288 t289 from zI56 HI0.out) (mR_ HO281.out) (by decide)) hk (fun _ h => h.2)) (fun _ h => h.1)); have n1_ := aM (Kd.R_mono (Kd.R_keep (IsS56.apart (show IsS56 w0 _ g s0_0 t288 t289 from zI56 HI0.out) (mR_ HO292.out) (by decide)) hk (fun _ h => h.2)) (fun _ h => h.1)); have n2_ := aM (KeepBut.trans (zK HK.out) hk (.inl rfl)); have n3_ := aM (hb); have n4_ := aM (hi); clear HO281 HO292 HK HB HI0; have HO281 := n0_; have HO292 := n1_; have HK := n2_; have HB := n3_; have HI0 := n4_; clear n0_ n1_ n2_ n3_ n4_; (try clear hb); (try clear hb2); (try clear hk); (try clear hi)) | ((with_reducible refine gate_callee (f := 33) rfl ?_); refine goesL_ (some 21) rfl rfl Try.func33 (by kernel_rfl) rfl #[.pointer (some ⟨g, 0, none⟩), .int .i64 24] rfl zm ?_; (with_reducible refine (spec_l01Next.calls g s0_0 t294 t295 24 t296 t297 t298 w0 _ ?side1 ?side2 A7.out).mono ?_); (case side1 => exact zI56 HI0.out); (case side2 => exact zs (IsS56.ge HI0.out)); rintro e w61 ⟨rfl, hi, hb, hk⟩; refine ⟨_, rfl, ?_⟩; have n0_ := aM (Kd.R_mono (Kd.R_keep (IsS56.apart (show IsS56 w0 _ g s0_0 t294 t295 from zI56 HI0.out) (mR_ HO281.out) (by decide)) hk (fun _ h => h.2)) (fun _ h => h.1)); have n1_ := aM (Kd.R_mono (Kd.R_keep (IsS56.apart (show IsS56 w0 _ g s0_0 t294 t295 from zI56 HI0.out) (mR_ HO292.out) (by decide)) hk (fun _ h => h.2)) (fun _ h => h.1)); have n2_ := aM (KeepBut.trans (zK HK.out) hk (.inl rfl)); have n3_ := aM (hb); have n4_ := aM (hi); clear HO281 HO292 HK HB HI0; have HO281 := n0_; have HO292 := n1_; have HK := n2_; have HB := n3_; have HI0 := n4_; clear n0_ n1_ n2_ n3_ n4_; (try clear hb); (try clear hb2); (try clear hk); (try clear hi)) | ((with_reducible refine gate_dst (N := 48) rfl ?_); refine Kd.R_lit k35 _ 35 ?hg (N := 48) ?hd (xs := ([] : List (S35))) (inner := []) (ok := fun _ => True) (okp := fun _ => True) ?hr ?hp (fun _ hk => hk) trivial (Below.refl _ _) (Nat.le_refl _) (by simp) ?_; (case hd => rfl); (case hg => rfl); (case hr => first | (go_simp; done) | (go_simp; rfl)); (case hp => exact (Reps.none _ _)); intro v315 w62 ho63 hb hg_ hnew_; clear hg_ hnew_; (first | rw [← Ny314.out] at ho63 | (simp only [Int.reduceToNat] at ho63; rw [← Ny314.out] at ho63)); have n0_ := aM (Kd.R_elder' (mR_ HO281.out) (Kd.R_base ho63) hb); have n1_ := aM (Kd.R_elder' (mR_ HO292.out) (Kd.R_base ho63) hb); have n2_ := aM (Kd.R_lower (Kd.R_new' (Kd.R_new' ho63 (Kd.R_lt (mR_ HO281.out))) (Kd.R_lt (mR_ HO292.out))) (keep_size (w := w) (g := g) (row := none) (zK HK.out))); have n3_ := aM (IsS56.below (zI56 HI0.out) hb); have n4_ := aM (KeepBut.trans (zK HK.out) (KeepBut.of_below hb g none) (.inl rfl)); have n5_ := aM (below_step (zs (IsS56.ge HI0.out)) hb); clear HO281 HO292 HI0 HK HB; have HO281 := n0_; have HO292 := n1_; have HO316 := n2_; have HI0 := n3_; have HK := n4_; have HB := n5_; clear n0_ n1_ n2_ n3_ n4_ n5_; clear hb ho63))
  go_loopg [5, 6] k (fun kq v5 v6 w' => ∃ (x5_1 : List (S35)) (x6_1 : Int) (x1001_1 : Int) (x1002_1 : Int), v6 = .int .i64 x6_1 ∧ Aside0 (spec_l02Draw.l0 kq x5_1 x6_1 s0_0 x1001_1 x1002_1 = some (r1, r2, r3)) ∧ Aside0 (kq ≤ k) ∧ Aside0 (Kd.R k35 35 w' w.heap.size (fun _ => True) v5 x5_1) ∧ Aside0 (IsS56 w0 w' g s0_0 x1001_1 x1002_1) ∧ Aside0 (KeepBut w w' g none) ∧ Aside0 (Below w0.heap.size w0 w'))
  case atStart => exact ⟨(y314), (0), (t297), (t298), zr, H', ⟨Nat.le_refl _⟩, ⟨zd2 HO316.out⟩, ⟨zI56 HI0.out⟩, ⟨zK HK.out⟩, ⟨zs (IsS56.ge HI0.out)⟩⟩
  case round =>
   clear H'
   try clear c1
   try clear p1
   try clear q1
   try clear hx1
   try clear hf1
   try clear c2
   try clear p2
   try clear hx2
   try clear hf2
   try clear c3
   try clear p3
   try clear q3
   try clear hx3
   try clear c4
   try clear c5
   try clear p6
   try clear c8
   try clear c8b0
   try clear c8b1
   try clear c10
   try clear c10b0
   try clear c11
   try clear c11b0
   try clear c12
   try clear c12b0
   try clear c13
   try clear c13b0
   try clear c14
   try clear p14
   try clear q14
   try clear hx14
   try clear hf14
   try clear c28
   try clear hx28
   try clear hf28
   try clear p30
   try clear q30
   try clear hx30
   try clear c31
   try clear c31b0
   try clear c31b1
   try clear p31
   try clear q31
   try clear hx31
   try clear c32
   try clear c32b0
   try clear c33
   try clear c33b0
   try clear c34
   try clear c39
   try clear c40
   try clear c41
   try clear c44
   try clear c44b0
   try clear c44b1
   try clear c53
   try clear c53b0
   try clear c53b1
   try clear hx14_0
   try clear hx14_1
   try clear hx28_0
   try clear hx305_0
   try clear hx310_0
   try clear hx310_1
   try clear p14
   try clear p305
   try clear p310
   try clear q14
   try clear q305
   try clear q310
   obtain ⟨x5_1, x6_1, x1001_1, x1002_1, rfl, HA, HK1, HO_5, HI0, HK, HB⟩ := hrel
   cases gk with
   | zero => exact absurd HA.out (by simp [spec_l02Draw.l0])
   | succ k1 =>
    have H := HA.out
    clear HA
    simp only [spec_l02Draw.l0] at H
    replace H := Option.bind_eq_some_iff.mp H
    obtain ⟨⟨t317, t318, t319⟩, A640, H⟩ := H
    replace H : (if x6_1 < (wrap64 (40 + t317)) then (if x5_1.length < 8796093022208 then (spec_l02Draw.l0 k1 (x5_1 ++ [(⟨x6_1, 0⟩ : S35)]) (wrap64 (x6_1 + 1)) s0_0 t318 t319) else (none)) else (some (x5_1, t318, t319))) = some (r1, r2, r3) := H
    have A64 := aM A640
    clear A640
    by_cases c65 : x6_1 < (wrap64 (40 + t317))
    rotate_left
    ·rw [if_neg c65] at H
     have c65b0 : decide (x6_1 < (wrap64 (40 + t317))) = false := decide_eq_false c65
     clear c65
     simp only [Option.some.injEq, Prod.mk.injEq] at H
     obtain ⟨rfl, rfl, rfl⟩ := H
     go_wp2_with (first | ((with_reducible refine gate_callee (f := 33) rfl ?_); refine goesL_ (some 51) rfl rfl Try.func33 (by kernel_rfl) rfl #[.pointer (some ⟨g, 0, none⟩), .int .i64 2] rfl zm ?_; (with_reducible refine (spec_l01Next.calls g s0_0 x1001_1 x1002_1 2 t317 t318 t319 w0 _ ?side1 ?side2 A64.out).mono ?_); (case side1 => exact zI56 HI0.out); (case side2 => exact zs (IsS56.ge HI0.out)); rintro e w69 ⟨rfl, hi, hb, hk⟩; refine ⟨_, rfl, ?_⟩; have n0_ := aM (Kd.R_mono (Kd.R_keep (IsS56.apart (show IsS56 w0 _ g s0_0 x1001_1 x1002_1 from zI56 HI0.out) (mR_ HO_5.out) (by decide)) hk (fun _ h => h.2)) (fun _ h => h.1)); have n1_ := aM (KeepBut.trans (zK HK.out) hk (.inl rfl)); have n2_ := aM (hb); have n3_ := aM (hi); clear HO_5 HK HB HI0; have HO_5 := n0_; have HK := n1_; have HB := n2_; have HI0 := n3_; clear n0_ n1_ n2_ n3_; (try clear hb); (try clear hb2); (try clear hk); (try clear hi)))
     go_ret
     exact ⟨_, zw, mR_ HO_5.out, zI56 HI0.out, zs (IsS56.ge HI0.out), zK HK.out⟩
    rw [if_pos c65] at H
    have c65b0 : decide (x6_1 < (wrap64 (40 + t317))) = true := decide_eq_true c65
    clear c65
    by_cases c66 : x5_1.length < 8796093022208
    rotate_left
    ·rw [if_neg c66] at H
     exact absurd H (by simp)
    rw [if_pos c66] at H
    have LMc66 := aM c66
    clear c66
    obtain ⟨y320, hy320⟩ : ∃ y_ : List (S35), y_ = (x5_1 ++ [(⟨x6_1, 0⟩ : S35)]) := ⟨_, rfl⟩
    replace H : (spec_l02Draw.l0 k1 y320 (wrap64 (x6_1 + 1)) s0_0 t318 t319) = some (r1, r2, r3) := zy H hy320
    have Ny320 := aM hy320
    clear hy320
    have H' := aM H
    clear H
    go_wp2_with (first | ((with_reducible refine gate_callee (f := 33) rfl ?_); refine goesL_ (some 51) rfl rfl Try.func33 (by kernel_rfl) rfl #[.pointer (some ⟨g, 0, none⟩), .int .i64 2] rfl zm ?_; (with_reducible refine (spec_l01Next.calls g s0_0 x1001_1 x1002_1 2 t317 t318 t319 w0 _ ?side1 ?side2 A64.out).mono ?_); (case side1 => exact zI56 HI0.out); (case side2 => exact zs (IsS56.ge HI0.out)); rintro e w67 ⟨rfl, hi, hb, hk⟩; refine ⟨_, rfl, ?_⟩; have n0_ := aM (Kd.R_mono (Kd.R_keep (IsS56.apart (show IsS56 w0 _ g s0_0 x1001_1 x1002_1 from zI56 HI0.out) (mR_ HO_5.out) (by decide)) hk (fun _ h => h.2)) (fun _ h => h.1)); have n1_ := aM (KeepBut.trans (zK HK.out) hk (.inl rfl)); have n2_ := aM (hb); have n3_ := aM (hi); clear HO_5 HK HB HI0; have HO_5 := n0_; have HK := n1_; have HB := n2_; have HI0 := n3_; clear n0_ n1_ n2_ n3_; (try clear hb); (try clear hb2); (try clear hk); (try clear hi)) | ((with_reducible refine gate_builtin (b := .append) (xs := #[.tmp 56, .tmp 59]) rfl ?_); at_builtin; refine Kd.R_append k35 w.heap.size rfl (.tmp 56) (.tmp 59) 26 35 (.agg #[(.int .i64 0), (.int .i64 0)]) 16 rfl Try.underlying26 info35 rfl (by decide) (by omega) u5 x5_1 (⟨x6_1, 0⟩ : S35) [.int .i64 x6_1, .int .i64 0] (fun _ => True) (fun _ => False) rfl rfl ?aP (fun _ hk => hk.elim) ?aF ?aO (Below.refl _ _) ?aS ?aL ?_; (case aP => exact k35_mkM _ _ _ (⟨x6_1, 0⟩ : S35)); (case aF => exact (fun _ _ => trivial)); (case aO => exact (mR_ HO_5.out)); (case aS => exact (keep_size (w := w) (g := g) (row := none) (zK HK.out))); (case aL => have := LMc66.out; omega); intro v321 w68 ho hb hg hat; rw [← Ny320.out] at ho; have n0_ := aM (IsS56.grown (zI56 HI0.out) hg (IsS56.own_ne HI0.out HO_5.out (by decide))); have n1_ := aM (below_weaken (zs (IsS56.ge HI0.out)) HL.out hb); have n2_ := aM (KeepBut.trans (zK HK.out) (KeepBut.of_grown hg g) (Kd.R_base2 HO_5.out)); have n3_ := aM (ho); clear HI0 HB HK HO_5; have HI0 := n0_; have HB := n1_; have HK := n2_; have HO322 := n3_; clear n0_ n1_ n2_ n3_; clear ho hb hg hat))
    go_roundg k1
    case measure => have := HK1.out; omega
    case rel => exact ⟨(y320), (wrap64 (x6_1 + 1)), (t318), (t319), zr, H', ⟨by have := HK1.out; omega⟩, ⟨mR_ HO322.out⟩, ⟨zI56 HI0.out⟩, ⟨zK HK.out⟩, ⟨zs (IsS56.ge HI0.out)⟩⟩
 rw [if_neg c53] at H
 have c53b0 : (t296 == 3) = false := beq_eq_false_iff_ne.mpr c53
 have c53b1 : (t296 != 3) = true := bne_iff_ne.mpr c53
 by_cases c70 : t296 = 4
 ·rw [if_pos c70] at H
  have c70b0 : (t296 == 4) = true := beq_iff_eq.mpr c70
  have c70b1 : (t296 != 4) = false := bne_eq_false_iff_eq.mpr c70
  clear c70
  by_cases c71 : 0 < (t290.length : Int)
  rotate_left
  ·rw [if_neg c71] at H
   exact absurd H (by simp)
  rw [if_pos c71] at H
  have c71b0 : decide (0 < (t290.length : Int)) = true := decide_eq_true c71
  have c71b1 : decide (0 < t290.length) = true := decide_eq_true (by omega)
  clear c71
  obtain ⟨ji72, hji72⟩ : ∃ j_ : Int, (wrap64 ((t290.length : Int) - 1)) = j_ := ⟨_, rfl⟩
  replace H : (if 0 ≤ (ji72) then (if (ji72) < (t290.length : Int) then (if t290.length < 8796093022208 then (some ((t290 ++ [(⟨wrap64 (((rd_T35 t290 0).f0) + 3), wrap64 (((rd_T35 t290 (ji72)).f1) + 2)⟩ : S35)]), t297, t298)) else (none)) else (none)) else (none)) = some (r1, r2, r3) := by first | (rw [hji72] at H; exact H) | (simp only [hji72] at H ⊢; exact H)
  (try rw [hji72] at A2)
  (try rw [hji72] at A3)
  (try rw [hji72] at A4)
  (try rw [hji72] at A5)
  (try rw [hji72] at A6)
  (try rw [hji72] at A7)
  have hji72w : (IntKind.i64.wrap ((t290.length : Int) - 1)) = ji72 := (i64_w _).trans hji72
  by_cases c73 : 0 ≤ (ji72)
  rotate_left
  ·rw [if_neg c73] at H
   exact absurd H (by simp)
  rw [if_pos c73] at H
  have c73b0 : decide (0 ≤ (ji72)) = true := decide_eq_true c73
  clear c73
  by_cases c74 : (ji72) < (t290.length : Int)
  rotate_left
  ·rw [if_neg c74] at H
   exact absurd H (by simp)
  rw [if_pos c74] at H
  have c74b0 : decide ((ji72) < (t290.length : Int)) = true := decide_eq_true c74
  clear c74
  by_cases c75 : t290.length < 8796093022208
  rotate_left
  ·rw [if_neg c75] at H
   exact absurd H (by simp)
  rw [if_pos c75] at H
  have LMc75 := aM c75
  clear c75
  obtain ⟨y325, hy325⟩ : ∃ y_ : List (S35), y_ = (t290 ++ [(⟨wrap64 (((rd_T35 t290 0).f0) + 3), wrap64 (((rd_T35 t290 (ji72)).f1) + 2)⟩ : S35)]) := ⟨_, rfl⟩
  replace H : (some (y325, t297, t298)) = some (r1, r2, r3) := zy H hy325
  have Ny325 := aM hy325
  clear hy325
  simp only [Option.some.injEq, Prod.mk.injEq] at H
  obtain ⟨rfl, rfl, rfl⟩ := H
  go_enter Try.func34, Try.ntmps34
  try go_wp2_with (first | ((with_reducible refine gate_callee (f := 40) rfl ?_); refine goesL_ (some 8) rfl rfl Try.func40 (by kernel_rfl) rfl #[.pointer (some ⟨g, 0, none⟩), .int .i64 8] rfl zm ?_; (with_reducible refine (spec_l02DrawPoly.calls k g s0_0 s0_1 s0_2 8 t279 t282 t283 w0 _ ?side1 ?side2 A2.out).mono ?_); (case side1 => exact zI56 HI0.out); (case side2 => exact zs (IsS56.ge HI0.out)); rintro e w76 ⟨v280, rfl, ho0, hi, hb, hk⟩; refine ⟨_, rfl, ?_⟩; have n0_ := aM (Kd.R_lower ho0 (keep_size (w := w) (g := g) (row := none) (zK HK.out))); have n1_ := aM (KeepBut.trans (zK HK.out) hk (.inl rfl)); have n2_ := aM (hb); have n3_ := aM (hi); clear HK HB HI0; have HO281 := n0_; have HK := n1_; have HB := n2_; have HI0 := n3_; clear n0_ n1_ n2_ n3_; (try clear hb); (try clear hb2); (try clear hk); (try clear hi); (try clear ho0)) | ((with_reducible refine gate_callee (f := 33) rfl ?_); refine goesL_ (some 10) rfl rfl Try.func33 (by kernel_rfl) rfl #[.pointer (some ⟨g, 0, none⟩), .int .i64 9] rfl zm ?_; (with_reducible refine (spec_l01Next.calls g s0_0 t282 t283 9 t284 t285 t286 w0 _ ?side1 ?side2 A3.out).mono ?_); (case side1 => exact zI56 HI0.out); (case side2 => exact zs (IsS56.ge HI0.out)); rintro e w77 ⟨rfl, hi, hb, hk⟩; refine ⟨_, rfl, ?_⟩; have n0_ := aM (Kd.R_mono (Kd.R_keep (IsS56.apart (show IsS56 w0 _ g s0_0 t282 t283 from zI56 HI0.out) (mR_ HO281.out) (by decide)) hk (fun _ h => h.2)) (fun _ h => h.1)); have n1_ := aM (KeepBut.trans (zK HK.out) hk (.inl rfl)); have n2_ := aM (hb); have n3_ := aM (hi); clear HO281 HK HB HI0; have HO281 := n0_; have HK := n1_; have HB := n2_; have HI0 := n3_; clear n0_ n1_ n2_ n3_; (try clear hb); (try clear hb2); (try clear hk); (try clear hi)) | ((with_reducible refine gate_callee (f := 33) rfl ?_); refine goesL_ (some 13) rfl rfl Try.func33 (by kernel_rfl) rfl #[.pointer (some ⟨g, 0, none⟩), .int .i64 9] rfl zm ?_; (with_reducible refine (spec_l01Next.calls g s0_0 t285 t286 9 t287 t288 t289 w0 _ ?side1 ?side2 A4.out).mono ?_); (case side1 => exact zI56 HI0.out); (case side2 => exact zs (IsS56.ge HI0.out)); rintro e w78 ⟨rfl, hi, hb, hk⟩; refine ⟨_, rfl, ?_⟩; have n0_ := aM (Kd.R_mono (Kd.R_keep (IsS56.apart (show IsS56 w0 _ g s0_0 t285 t286 from zI56 HI0.out) (mR_ HO281.out) (by decide)) hk (fun _ h => h.2)) (fun _ h => h.1)); have n1_ := aM (KeepBut.trans (zK HK.out) hk (.inl rfl)); have n2_ := aM (hb); have n3_ := aM (hi); clear HO281 HK HB HI0; have HO281 := n0_; have HK := n1_; have HB := n2_; have HI0 := n3_; clear n0_ n1_ n2_ n3_; (try clear hb); (try clear hb2); (try clear hk); (try clear hi); obtain ⟨Ao79, co79, eo79⟩ := Kd.R_slice HO281.out; subst eo79) | ((with_reducible refine gate_callee (f := 39) rfl ?_); refine goesL_ (some 15) rfl rfl Try.func39 (by kernel_rfl) rfl #[.slice Ao79 t279.length co79, .int .i64 (wrap64 (t284 - 4)), .int .i64 (wrap64 (t287 - 4))] rfl zm ?_; (with_reducible refine (spec_l02Move.calls k _ _ t279 (wrap64 (t284 - 4)) (wrap64 (t287 - 4)) t290 _ ?side1 ?side2 A5.out).mono ?_); (case side1 => exact zc HO281.out); (case side2 => exact (Kd.R_reads' HO281.out).2.1); rintro e w80 ⟨v291, rfl, ho0, hb⟩; refine ⟨_, rfl, ?_⟩; have n0_ := aM (Kd.R_elder' (mR_ HO281.out) (Kd.R_base ho0) hb); have n1_ := aM (Kd.R_lower (Kd.R_new' ho0 (Kd.R_lt (mR_ HO281.out))) (keep_size (w := w) (g := g) (row := none) (zK HK.out))); have n2_ := aM (IsS56.below (zI56 HI0.out) hb); have n3_ := aM (KeepBut.trans (zK HK.out) (KeepBut.of_below hb g none) (.inl rfl)); have n4_ := aM (below_step (zs (IsS56.ge HI0.out)) hb); clear HO281 HI0 HK HB; have HO281 := n0_; have HO292 := n1_; have HI0 := n2_; have HK := n3_; have HB := n4_; clear n0_ n1_ n2_ n3_ n4_; (try clear hb); (try clear hb2); (try clear hk); (try clear hi); (try clear ho0); obtain ⟨Ao81, co81, eo81⟩ := Kd.R_slice HO292.out; subst eo81) | ((with_reducible refine gate_callee (f := 33) rfl ?_); refine goesL_ (some 19) rfl rfl Try.func33 (by kernel_rfl) rfl #[.pointer (some ⟨g, 0, none⟩), .int .i64 (t290.length : Int)] rfl zm ?_; (with_reducible refine (spec_l01Next.calls g s0_0 t288 t289 (t290.length : Int) t293 t294 t295 w0 _ ?side1 ?side2 A6.out).mono ?_); (case side1 => exact zI56 HI0.out); (case side2 => exact zs (IsS56.ge HI0.out)); rintro e w82 ⟨rfl, hi, hb, hk⟩; refine ⟨_, rfl, ?_⟩; have n0_ := aM (Kd.R_mono (Kd.R_keep (IsS56.apart (show IsS56 w0 _ g s0_0 t288 t289 from zI56 HI0.out) (mR_ HO281.out) (by decide)) hk (fun _ h => h.2)) (fun _ h => h.1)); have n1_ := aM (Kd.R_mono (Kd.R_keep (IsS56.apart (show IsS56 w0 _ g s0_0 t288 t289 from zI56 HI0.out) (mR_ HO292.out) (by decide)) hk (fun _ h => h.2)) (fun _ h => h.1)); have n2_ := aM (KeepBut.trans (zK HK.out) hk (.inl rfl)); have n3_ := aM (hb); have n4_ := aM (hi); clear HO281 HO292 HK HB HI0; have HO281 := n0_; have HO292 := n1_; have HK := n2_; have HB := n3_; have HI0 := n4_; clear n0_ n1_ n2_ n3_ n4_; (try clear hb); (try clear hb2); (try clear hk); (try clear hi)) | ((with_reducible refine gate_callee (f := 33) rfl ?_); refine goesL_ (some 21) rfl rfl Try.func33 (by kernel_rfl) rfl #[.pointer (some ⟨g, 0, none⟩), .int .i64 24] rfl zm ?_; (with_reducible refine (spec_l01Next.calls g s0_0 t294 t295 24 t296 t297 t298 w0 _ ?side1 ?side2 A7.out).mono ?_); (case side1 => exact zI56 HI0.out); (case side2 => exact zs (IsS56.ge HI0.out)); rintro e w83 ⟨rfl, hi, hb, hk⟩; refine ⟨_, rfl, ?_⟩; have n0_ := aM (Kd.R_mono (Kd.R_keep (IsS56.apart (show IsS56 w0 _ g s0_0 t294 t295 from zI56 HI0.out) (mR_ HO281.out) (by decide)) hk (fun _ h => h.2)) (fun _ h => h.1)); have n1_ := aM (Kd.R_mono (Kd.R_keep (IsS56.apart (show IsS56 w0 _ g s0_0 t294 t295 from zI56 HI0.out) (mR_ HO292.out) (by decide)) hk (fun _ h => h.2)) (fun _ h => h.1)); have n2_ := aM (KeepBut.trans (zK HK.out) hk (.inl rfl)); have n3_ := aM (hb); have n4_ := aM (hi); clear HO281 HO292 HK HB HI0; have HO281 := n0_; have HO292 := n1_; have HK := n2_; have HB := n3_; have HI0 := n4_; clear n0_ n1_ n2_ n3_ n4_; (try clear hb); (try clear hb2); (try clear hk); (try clear hi)))
  have n0_ := aM (Kd.R_drew HO281.out)
  have n1_ := aM (Kd.R_drew HO292.out)
  have n2_ := aM (IsS56.drew HI0.out)
  have n3_ := aM (keep_drew HK.out)
  have n4_ := aM (below_drew1 HB.out)
  clear HO281
  clear HO292
  clear HI0
  clear HK
  clear HB
  have HO281 := n0_
  have HO292 := n1_
  have HI0 := n2_
  have HK := n3_
  have HB := n4_
  clear n0_ n1_ n2_ n3_ n4_
  have p323 : 0 ≤ (0 : Int) := (by omega)
  have q323 : 0 < (t290.length : Int) := of_decide_eq_true za
  obtain ⟨ad323, e323, hx323_0, hx323_1⟩ := at_T35 (Kd.R_reads' HO292.out).2.2 0 p323 q323
  cases e323
  have qi323 : (0 < t290.length) = True := eq_true (by omega)
  (try rw [show ((0 : Int)).toNat = 0 from rfl] at hx323_0)
  (try rw [show 0 * 2 = 0 from rfl] at hx323_0)
  (try rw [Addr.add_zero'] at hx323_0)
  (try rw [show ((0 : Int)).toNat = 0 from rfl] at hx323_1)
  (try rw [show 0 * 2 = 0 from rfl] at hx323_1)
  (try rw [Addr.add_zero'] at hx323_1)
  replace p323 := eq_true p323
  replace q323 := eq_true q323
  have p324 : 0 ≤ ((ji72) : Int) := of_decide_eq_true za
  have q324 : (ji72) < (t290.length : Int) := of_decide_eq_true za
  obtain ⟨ad324, e324, hx324_0, hx324_1⟩ := at_T35 (Kd.R_reads' HO292.out).2.2 (ji72) p324 q324
  obtain rfl : ad323 = ad324 := (by injection e324)
  replace p324 := eq_true p324
  replace q324 := eq_true q324
  refine start_ (n := 18) (S := fun w' => w'.cell? ad323 = some (.int .i64 ((rd_T35 t290 0).f0)) ∧ w'.cell? ⟨ad323.block, ad323.off + 1, none⟩ = some (.int .i64 ((rd_T35 t290 0).f1)) ∧ w'.cell? (ad323.add (((ji72)).toNat * 2)) = some (.int .i64 ((rd_T35 t290 (ji72)).f0)) ∧ w'.cell? ⟨(ad323.add (((ji72)).toNat * 2)).block, (ad323.add (((ji72)).toNat * 2)).off + 1, none⟩ = some (.int .i64 ((rd_T35 t290 (ji72)).f1))) (ds := [15, 16]) zA86 (by kernel_rfl) rfl rfl ⟨hx323_0, hx323_1, hx324_0, hx324_1⟩ (fun hHeld => ?_); refine with_tabW spec_l02Draw.tab20 spec_l02Draw.bits20 (fun HT_ HW_ => ?_)
  generalize w83.drew = w84 at HO281 HO292 HI0 HK HB hx323_0 hx323_1 hx324_0 hx324_1 hHeld ⊢
  refine zp 0 (some 65) ?_ zA87 rfl rfl (Or.inl ⟨by rfl, ?_⟩) ?_ ?_ ?_
  rotate_left
  ·intro w'
   go_simp
   with_reducible rfl
  rotate_left
  ·simp only [Act.put, xA, xB, xC, i64_w, i32_w]
   rfl
  refine zp 1 (some 66) ?_ zA88 rfl rfl (Or.inl ⟨by rfl, ?_⟩) ?_ ?_ ?_
  rotate_left
  ·intro w'
   go_simp
   with_reducible rfl
  rotate_left
  ·simp only [Act.put, xA, xB, xC, i64_w, i32_w]
   rfl
  refine zp 2 (some 67) ?_ zA89 rfl rfl (Or.inl ⟨by rfl, ?_⟩) ?_ ?_ ?_
  rotate_left
  ·intro w'
   go_simp
   with_reducible rfl
  rotate_left
  ·simp only [Act.put, xA, xB, xC, i64_w, i32_w]
   rfl
  refine zp 3 (some 68) ?_ zA90 rfl rfl (Or.inl ⟨by rfl, ?_⟩) ?_ ?_ ?_
  rotate_left
  ·intro w'
   go_simp
   with_reducible rfl
  rotate_left
  ·simp only [Act.put, xA, xB, xC, i64_w, i32_w]
   rfl
  refine zp 6 (some 71) ?_ zA91 rfl rfl (Or.inl ⟨by rfl, ?_⟩) ?_ ?_ ?_
  rotate_left
  ·intro w'
   go_simp
   with_reducible rfl
  rotate_left
  ·simp only [Act.put, xA, xB, xC, i64_w, i32_w]
   rfl
  refine zp 7 (some 72) ?_ zA92 rfl rfl (Or.inl ⟨by rfl, ?_⟩) ?_ ?_ ?_
  rotate_left
  ·intro w'
   go_simp
   with_reducible rfl
  rotate_left
  ·simp only [Act.put, xA, xB, xC, i64_w, i32_w]
   rfl
  refine zp 8 (some 73) ?_ zA93 rfl rfl (Or.inl ⟨by rfl, ?_⟩) ?_ ?_ ?_
  rotate_left
  ·intro w'
   go_simp
   with_reducible rfl
  rotate_left
  ·simp only [Act.put, xA, xB, xC, i64_w, i32_w]
   rfl
  refine zp 9 (some 74) ?_ zA94 rfl rfl (Or.inl ⟨by rfl, ?_⟩) ?_ ?_ ?_
  rotate_left
  ·intro w'
   go_simp
   with_reducible rfl
  rotate_left
  ·simp only [Act.put, xA, xB, xC, i64_w, i32_w]
   rfl
  refine zp 10 (some 75) ?_ zA95 rfl rfl (Or.inl ⟨by rfl, ?_⟩) ?_ ?_ ?_
  rotate_left
  ·intro w'
   go_simp
   with_reducible rfl
  rotate_left
  ·simp only [Act.put, xA, xB, xC, i64_w, i32_w]
   rfl
  refine zp 11 (some 76) ?_ zA96 rfl rfl (Or.inl ⟨by rfl, ?_⟩) ?_ ?_ ?_
  rotate_left
  ·intro w'
   go_simp
   with_reducible rfl
  rotate_left
  ·simp only [Act.put, xA, xB, xC, i64_w, i32_w]
   rfl
  refine zu 4 (some 69) ?_ zA97 rfl rfl (Or.inl ⟨by rfl, ?_⟩) hHeld ?_ ?_ ?_
  rotate_left
  ·rintro w' ⟨s0, s1, s2, s3⟩
   go_simp
   with_reducible rfl
  rotate_left
  ·simp only [Act.put, xA, xB, xC, i64_w, i32_w]
   rfl
  refine zp 5 (some 70) ?_ zA98 rfl rfl (Or.inl ⟨by rfl, ?_⟩) ?_ ?_ ?_
  rotate_left
  ·intro w'
   go_simp
   with_reducible rfl
  rotate_left
  ·simp only [Act.put, xA, xB, xC, i64_w, i32_w]
   rfl
  refine zu 12 (some 77) ?_ zA99 rfl rfl (Or.inl ⟨by rfl, ?_⟩) hHeld ?_ ?_ ?_
  rotate_left
  ·rintro w' ⟨s0, s1, s2, s3⟩
   go_simp
   with_reducible rfl
  rotate_left
  ·simp only [Act.put, xA, xB, xC, i64_w, i32_w]
   rfl
  refine zp 13 (some 78) ?_ zA100 rfl rfl (Or.inl ⟨by rfl, ?_⟩) ?_ ?_ ?_
  rotate_left
  ·intro w'
   go_simp
   with_reducible rfl
  rotate_left
  ·simp only [Act.put, xA, xB, xC, i64_w, i32_w]
   rfl
  refine zp 14 (some 79) ?_ zA101 rfl rfl (Or.inl ⟨by rfl, ?_⟩) ?_ ?_ ?_
  rotate_left
  ·intro w'
   go_simp
   with_reducible rfl
  rotate_left
  ·simp only [Act.put, xA, xB, xC, i64_w, i32_w]
   rfl
  refine last_ (i := 15) (N := some 80) zA102 rfl rfl (one_of HT_.out (by kernel_rfl)) (by decide) (fun K hK => ?_)
  refine value_ (w1 := ?_) (v := ?_) (by rfl) rfl ?_ ?_
  rotate_left 2
  ·go_simp
   constructor
   ·rfl
   ·rfl
  refine hK.out _ _ ?_
  clear hK K
  refine norm_ (a' := ?_) ?_ ?_
  rotate_left
  ·show Act.put _ (some 80) _ = _
   simp only [Act.put, xA, xB, xC, i64_w, i32_w]
   rfl
  refine last_ (i := 16) (N := some 81) zA103 rfl rfl (one_of HT_.out (by kernel_rfl)) (by decide) (fun K hK => ?_)
  refine Kd.R_append_step k35 w.heap.size (by rfl) (.tmp 65) (.tmp 80) 26 35 (.agg #[(.int .i64 0), (.int .i64 0)]) 16 rfl Try.underlying26 info35 rfl (by decide) (by omega) (.slice (some ad323) t290.length co81) t290 (⟨wrap64 (((rd_T35 t290 0).f0) + 3), wrap64 (((rd_T35 t290 (ji72)).f1) + 2)⟩ : S35) [.int .i64 (wrap64 (((rd_T35 t290 0).f0) + 3)), .int .i64 (wrap64 (((rd_T35 t290 (ji72)).f1) + 2))] (fun k_ => some k_ ≠ (.slice Ao79 t279.length co79 : Value).ownBlock) (fun _ => False) rfl rfl ?aP (fun _ hk => hk.elim) ?aF ?aO (Below.refl _ _) ?aS ?aL ?_
  (case aP => exact k35_mkM _ _ _ (⟨wrap64 (((rd_T35 t290 0).f0) + 3), wrap64 (((rd_T35 t290 (ji72)).f1) + 2)⟩ : S35))
  (case aF => exact (fun k_ hk => Kd.fresh' (Kd.R_lt (mR_ HO281.out)) k_ hk))
  (case aO => exact (zd4 HO292.out))
  (case aS => exact (keep_size (w := w) (g := g) (row := none) (zK HK.out)))
  (case aL => have := LMc75.out; omega)
  intro v326 w85 ho hb hg hat
  rw [← Ny325.out] at ho
  have n0_ := aM (IsS56.grown (zI56 HI0.out) hg (IsS56.own_ne HI0.out HO292.out (by decide)))
  have n1_ := aM (Kd.R_after (ok := (fun _ => True)) (mR_ HO281.out) hg hat)
  have n2_ := aM (below_weaken (zs (IsS56.ge HI0.out)) HL.out hb)
  have n3_ := aM (KeepBut.trans (zK HK.out) (KeepBut.of_grown hg g) (Kd.R_base2 HO292.out))
  have n4_ := aM (ho)
  clear HI0
  clear HO281
  clear HB
  clear HK
  clear HO292
  have HI0 := n0_
  have HO281 := n1_
  have HB := n2_
  have HK := n3_
  have HO327 := n4_
  clear n0_ n1_ n2_ n3_ n4_
  clear ho hb hg hat
  refine hK.out _ _ ?_
  clear hK K
  refine norm_ (a' := ?_) ?_ ?_
  rotate_left
  ·show Act.put _ (some 81) _ = _
   simp only [Act.put, xA, xB, xC, i64_w, i32_w]
   rfl
  refine zp 17 (some 2) ?_ zA104 rfl rfl (Or.inl ⟨by rfl, ?_⟩) ?_ ?_ ?_
  rotate_left
  ·intro w'
   go_simp
   with_reducible rfl
  rotate_left
  ·simp only [Act.put, xA, xB, xC, i64_w, i32_w]
   rfl
  refine done_ (done_of HT_.out (by kernel_rfl)) ?_
  try go_wp2
  go_ret
  exact ⟨_, by first | rfl | (simp [errW_none, errW_some] <;> rfl) | (simp only [← hji72]; first | rfl | (simp [errW_none, errW_some] <;> rfl)) | (simp [*, errW_none, errW_some] <;> rfl), zd2 HO327.out, zI56 HI0.out, zs (IsS56.ge HI0.out), zK HK.out⟩
 rw [if_neg c70] at H
 have c70b0 : (t296 == 4) = false := beq_eq_false_iff_ne.mpr c70
 have c70b1 : (t296 != 4) = true := bne_iff_ne.mpr c70
 by_cases c86 : t296 = 5
 rotate_left
 ·rw [if_neg c86] at H
  have c86b0 : (t296 == 5) = false := beq_eq_false_iff_ne.mpr c86
  have c86b1 : (t296 != 5) = true := bne_iff_ne.mpr c86
  simp only [Option.some.injEq, Prod.mk.injEq] at H
  obtain ⟨rfl, rfl, rfl⟩ := H
  go_enter Try.func34, Try.ntmps34
  go_wp2_with (first | ((with_reducible refine gate_callee (f := 40) rfl ?_); refine goesL_ (some 8) rfl rfl Try.func40 (by kernel_rfl) rfl #[.pointer (some ⟨g, 0, none⟩), .int .i64 8] rfl zm ?_; (with_reducible refine (spec_l02DrawPoly.calls k g s0_0 s0_1 s0_2 8 t279 t282 t283 w0 _ ?side1 ?side2 A2.out).mono ?_); (case side1 => exact zI56 HI0.out); (case side2 => exact zs (IsS56.ge HI0.out)); rintro e w102 ⟨v280, rfl, ho0, hi, hb, hk⟩; refine ⟨_, rfl, ?_⟩; have n0_ := aM (Kd.R_lower ho0 (keep_size (w := w) (g := g) (row := none) (zK HK.out))); have n1_ := aM (KeepBut.trans (zK HK.out) hk (.inl rfl)); have n2_ := aM (hb); have n3_ := aM (hi); clear HK HB HI0; have HO281 := n0_; have HK := n1_; have HB := n2_; have HI0 := n3_; clear n0_ n1_ n2_ n3_; (try clear hb); (try clear hb2); (try clear hk); (try clear hi); (try clear ho0)) | ((with_reducible refine gate_callee (f := 33) rfl ?_); refine goesL_ (some 10) rfl rfl Try.func33 (by kernel_rfl) rfl #[.pointer (some ⟨g, 0, none⟩), .int .i64 9] rfl zm ?_; (with_reducible refine (spec_l01Next.calls g s0_0 t282 t283 9 t284 t285 t286 w0 _ ?side1 ?side2 A3.out).mono ?_); (case side1 => exact zI56 HI0.out); (case side2 => exact zs (IsS56.ge HI0.out)); rintro e w103 ⟨rfl, hi, hb, hk⟩; refine ⟨_, rfl, ?_⟩; have n0_ := aM (Kd.R_mono (Kd.R_keep (IsS56.apart (show IsS56 w0 _ g s0_0 t282 t283 from zI56 HI0.out) (mR_ HO281.out) (by decide)) hk (fun _ h => h.2)) (fun _ h => h.1)); have n1_ := aM (KeepBut.trans (zK HK.out) hk (.inl rfl)); have n2_ := aM (hb); have n3_ := aM (hi); clear HO281 HK HB HI0; have HO281 := n0_; have HK := n1_; have HB := n2_; have HI0 := n3_; clear n0_ n1_ n2_ n3_; (try clear hb); (try clear hb2); (try clear hk); (try clear hi)) | ((with_reducible refine gate_callee (f := 33) rfl ?_); refine goesL_ (some 13) rfl rfl Try.func33 (by kernel_rfl) rfl #[.pointer (some ⟨g, 0, none⟩), .int .i64 9] rfl zm ?_; (with_reducible refine (spec_l01Next.calls g s0_0 t285 t286 9 t287 t288 t289 w0 _ ?side1 ?side2 A4.out).mono ?_); (case side1 => exact zI56 HI0.out); (case side2 => exact zs (IsS56.ge HI0.out)); rintro e w104 ⟨rfl, hi, hb, hk⟩; refine ⟨_, rfl, ?_⟩; have n0_ := aM (Kd.R_mono (Kd.R_keep (IsS56.apart (show IsS56 w0 _ g s0_0 t285 t286 from zI56 HI0.out) (mR_ HO281.out) (by decide)) hk (fun _ h => h.2)) (fun _ h => h.1)); have n1_ := aM (KeepBut.trans (zK HK.out) hk (.inl rfl)); have n2_ := aM (hb); have n3_ := aM (hi); clear HO281 HK HB HI0; have HO281 := n0_; have HK := n1_; have HB := n2_; have HI0 := n3_; clear n0_ n1_ n2_ n3_; (try clear hb); (try clear hb2); (try clear hk); (try clear hi); obtain ⟨Ao105, co105, eo105⟩ := Kd.R_slice HO281.out; subst eo105) | ((with_reducible refine gate_callee (f := 39) rfl ?_); refine goesL_ (some 15) rfl rfl Try.func39 (by kernel_rfl) rfl #[.slice Ao105 t279.length co105, .int .i64 (wrap64 (t284 - 4)), .int .i64 (wrap64 (t287 - 4))] rfl zm ?_; (with_reducible refine (spec_l02Move.calls k _ _ t279 (wrap64 (t284 - 4)) (wrap64 (t287 - 4)) t290 _ ?side1 ?side2 A5.out).mono ?_); (case side1 => exact zc HO281.out); (case side2 => exact (Kd.R_reads' HO281.out).2.1); rintro e w106 ⟨v291, rfl, ho0, hb⟩; refine ⟨_, rfl, ?_⟩; have n0_ := aM (Kd.R_elder' (mR_ HO281.out) (Kd.R_base ho0) hb); have n1_ := aM (Kd.R_lower (Kd.R_new' ho0 (Kd.R_lt (mR_ HO281.out))) (keep_size (w := w) (g := g) (row := none) (zK HK.out))); have n2_ := aM (IsS56.below (zI56 HI0.out) hb); have n3_ := aM (KeepBut.trans (zK HK.out) (KeepBut.of_below hb g none) (.inl rfl)); have n4_ := aM (below_step (zs (IsS56.ge HI0.out)) hb); clear HO281 HI0 HK HB; have HO281 := n0_; have HO292 := n1_; have HI0 := n2_; have HK := n3_; have HB := n4_; clear n0_ n1_ n2_ n3_ n4_; (try clear hb); (try clear hb2); (try clear hk); (try clear hi); (try clear ho0); obtain ⟨Ao107, co107, eo107⟩ := Kd.R_slice HO292.out; subst eo107) | ((with_reducible refine gate_callee (f := 33) rfl ?_); refine goesL_ (some 19) rfl rfl Try.func33 (by kernel_rfl) rfl #[.pointer (some ⟨g, 0, none⟩), .int .i64 (t290.length : Int)] rfl zm ?_; (with_reducible refine (spec_l01Next.calls g s0_0 t288 t289 (t290.length : Int) t293 t294 t295 w0 _ ?side1 ?side2 A6.out).mono ?_); (case side1 => exact zI56 HI0.out); (case side2 => exact zs (IsS56.ge HI0.out)); rintro e w108 ⟨rfl, hi, hb, hk⟩; refine ⟨_, rfl, ?_⟩; have n0_ := aM (Kd.R_mono (Kd.R_keep (IsS56.apart (show IsS56 w0 _ g s0_0 t288 t289 from zI56 HI0.out) (mR_ HO281.out) (by decide)) hk (fun _ h => h.2)) (fun _ h => h.1)); have n1_ := aM (Kd.R_mono (Kd.R_keep (IsS56.apart (show IsS56 w0 _ g s0_0 t288 t289 from zI56 HI0.out) (mR_ HO292.out) (by decide)) hk (fun _ h => h.2)) (fun _ h => h.1)); have n2_ := aM (KeepBut.trans (zK HK.out) hk (.inl rfl)); have n3_ := aM (hb); have n4_ := aM (hi); clear HO281 HO292 HK HB HI0; have HO281 := n0_; have HO292 := n1_; have HK := n2_; have HB := n3_; have HI0 := n4_; clear n0_ n1_ n2_ n3_ n4_; (try clear hb); (try clear hb2); (try clear hk); (try clear hi)) | ((with_reducible refine gate_callee (f := 33) rfl ?_); refine goesL_ (some 21) rfl rfl Try.func33 (by kernel_rfl) rfl #[.pointer (some ⟨g, 0, none⟩), .int .i64 24] rfl zm ?_; (with_reducible refine (spec_l01Next.calls g s0_0 t294 t295 24 t296 t297 t298 w0 _ ?side1 ?side2 A7.out).mono ?_); (case side1 => exact zI56 HI0.out); (case side2 => exact zs (IsS56.ge HI0.out)); rintro e w109 ⟨rfl, hi, hb, hk⟩; refine ⟨_, rfl, ?_⟩; have n0_ := aM (Kd.R_mono (Kd.R_keep (IsS56.apart (show IsS56 w0 _ g s0_0 t294 t295 from zI56 HI0.out) (mR_ HO281.out) (by decide)) hk (fun _ h => h.2)) (fun _ h => h.1)); have n1_ := aM (Kd.R_mono (Kd.R_keep (IsS56.apart (show IsS56 w0 _ g s0_0 t294 t295 from zI56 HI0.out) (mR_ HO292.out) (by decide)) hk (fun _ h => h.2)) (fun _ h => h.1)); have n2_ := aM (KeepBut.trans (zK HK.out) hk (.inl rfl)); have n3_ := aM (hb); have n4_ := aM (hi); clear HO281 HO292 HK HB HI0; have HO281 := n0_; have HO292 := n1_; have HK := n2_; have HB := n3_; have HI0 := n4_; clear n0_ n1_ n2_ n3_ n4_; (try clear hb); (try clear hb2); (try clear hk); (try clear hi)))
  go_ret
  exact ⟨_, zw, zd2 HO292.out, zI56 HI0.out, zs (IsS56.ge HI0.out), zK HK.out⟩
 rw [if_pos c86] at H
 have c86b0 : (t296 == 5) = true := beq_iff_eq.mpr c86
 have c86b1 : (t296 != 5) = false := bne_eq_false_iff_eq.mpr c86
 clear c86
 by_cases c87 : 0 < (t290.length : Int)
 rotate_left
 ·rw [if_neg c87] at H
  exact absurd H (by simp)
 rw [if_pos c87] at H
 have c87b0 : decide (0 < (t290.length : Int)) = true := decide_eq_true c87
 have c87b1 : decide (0 < t290.length) = true := decide_eq_true (by omega)
 clear c87
 obtain ⟨ji88, hji88⟩ : ∃ j_ : Int, (wrap64 ((t290.length : Int) - 1)) = j_ := ⟨_, rfl⟩
 replace H : (if 0 ≤ (ji88) then (if (ji88) < (t290.length : Int) then (if t290.length < 8796093022208 then (some ((t290 ++ [(⟨wrap64 (((rd_T35 t290 0).f0) + 3), wrap64 (((rd_T35 t290 (ji88)).f1) + 2)⟩ : S35)]), t297, t298)) else (none)) else (none)) else (none)) = some (r1, r2, r3) := by first | (rw [hji88] at H; exact H) | (simp only [hji88] at H ⊢; exact H)
 (try rw [hji88] at A2)
 (try rw [hji88] at A3)
 (try rw [hji88] at A4)
 (try rw [hji88] at A5)
 (try rw [hji88] at A6)
 (try rw [hji88] at A7)
 have hji88w : (IntKind.i64.wrap ((t290.length : Int) - 1)) = ji88 := (i64_w _).trans hji88
 by_cases c89 : 0 ≤ (ji88)
 rotate_left
 ·rw [if_neg c89] at H
  exact absurd H (by simp)
 rw [if_pos c89] at H
 have c89b0 : decide (0 ≤ (ji88)) = true := decide_eq_true c89
 clear c89
 by_cases c90 : (ji88) < (t290.length : Int)
 rotate_left
 ·rw [if_neg c90] at H
  exact absurd H (by simp)
 rw [if_pos c90] at H
 have c90b0 : decide ((ji88) < (t290.length : Int)) = true := decide_eq_true c90
 clear c90
 by_cases c91 : t290.length < 8796093022208
 rotate_left
 ·rw [if_neg c91] at H
  exact absurd H (by simp)
 rw [if_pos c91] at H
 have LMc91 := aM c91
 clear c91
 obtain ⟨y330, hy330⟩ : ∃ y_ : List (S35), y_ = (t290 ++ [(⟨wrap64 (((rd_T35 t290 0).f0) + 3), wrap64 (((rd_T35 t290 (ji88)).f1) + 2)⟩ : S35)]) := ⟨_, rfl⟩
 replace H : (some (y330, t297, t298)) = some (r1, r2, r3) := zy H hy330
 have Ny330 := aM hy330
 clear hy330
 simp only [Option.some.injEq, Prod.mk.injEq] at H
 obtain ⟨rfl, rfl, rfl⟩ := H
 go_enter Try.func34, Try.ntmps34
 try go_wp2_with (first | ((with_reducible refine gate_callee (f := 40) rfl ?_); refine goesL_ (some 8) rfl rfl Try.func40 (by kernel_rfl) rfl #[.pointer (some ⟨g, 0, none⟩), .int .i64 8] rfl zm ?_; (with_reducible refine (spec_l02DrawPoly.calls k g s0_0 s0_1 s0_2 8 t279 t282 t283 w0 _ ?side1 ?side2 A2.out).mono ?_); (case side1 => exact zI56 HI0.out); (case side2 => exact zs (IsS56.ge HI0.out)); rintro e w92 ⟨v280, rfl, ho0, hi, hb, hk⟩; refine ⟨_, rfl, ?_⟩; have n0_ := aM (Kd.R_lower ho0 (keep_size (w := w) (g := g) (row := none) (zK HK.out))); have n1_ := aM (KeepBut.trans (zK HK.out) hk (.inl rfl)); have n2_ := aM (hb); have n3_ := aM (hi); clear HK HB HI0; have HO281 := n0_; have HK := n1_; have HB := n2_; have HI0 := n3_; clear n0_ n1_ n2_ n3_; (try clear hb); (try clear hb2); (try clear hk); (try clear hi); (try clear ho0)) | ((with_reducible refine gate_callee (f := 33) rfl ?_); refine goesL_ (some 10) rfl rfl Try.func33 (by kernel_rfl) rfl #[.pointer (some ⟨g, 0, none⟩), .int .i64 9] rfl zm ?_; (with_reducible refine (spec_l01Next.calls g s0_0 t282 t283 9 t284 t285 t286 w0 _ ?side1 ?side2 A3.out).mono ?_); (case side1 => exact zI56 HI0.out); (case side2 => exact zs (IsS56.ge HI0.out)); rintro e w93 ⟨rfl, hi, hb, hk⟩; refine ⟨_, rfl, ?_⟩; have n0_ := aM (Kd.R_mono (Kd.R_keep (IsS56.apart (show IsS56 w0 _ g s0_0 t282 t283 from zI56 HI0.out) (mR_ HO281.out) (by decide)) hk (fun _ h => h.2)) (fun _ h => h.1)); have n1_ := aM (KeepBut.trans (zK HK.out) hk (.inl rfl)); have n2_ := aM (hb); have n3_ := aM (hi); clear HO281 HK HB HI0; have HO281 := n0_; have HK := n1_; have HB := n2_; have HI0 := n3_; clear n0_ n1_ n2_ n3_; (try clear hb); (try clear hb2); (try clear hk); (try clear hi)) | ((with_reducible refine gate_callee (f := 33) rfl ?_); refine goesL_ (some 13) rfl rfl Try.func33 (by kernel_rfl) rfl #[.pointer (some ⟨g, 0, none⟩), .int .i64 9] rfl zm ?_; (with_reducible refine (spec_l01Next.calls g s0_0 t285 t286 9 t287 t288 t289 w0 _ ?side1 ?side2 A4.out).mono ?_); (case side1 => exact zI56 HI0.out); (case side2 => exact zs (IsS56.ge HI0.out)); rintro e w94 ⟨rfl, hi, hb, hk⟩; refine ⟨_, rfl, ?_⟩; have n0_ := aM (Kd.R_mono (Kd.R_keep (IsS56.apart (show IsS56 w0 _ g s0_0 t285 t286 from zI56 HI0.out) (mR_ HO281.out) (by decide)) hk (fun _ h => h.2)) (fun _ h => h.1)); have n1_ := aM (KeepBut.trans (zK HK.out) hk (.inl rfl)); have n2_ := aM (hb); have n3_ := aM (hi); clear HO281 HK HB HI0; have HO281 := n0_; have HK := n1_; have HB := n2_; have HI0 := n3_; clear n0_ n1_ n2_ n3_; (try clear hb); (try clear hb2); (try clear hk); (try clear hi); obtain ⟨Ao95, co95, eo95⟩ := Kd.R_slice HO281.out; subst eo95) | ((with_reducible refine gate_callee (f := 39) rfl ?_); refine goesL_ (some 15) rfl rfl Try.func39 (by kernel_rfl) rfl #[.slice Ao95 t279.length co95, .int .i64 (wrap64 (t284 - 4)), .int .i64 (wrap64 (t287 - 4))] rfl zm ?_; (with_reducible refine (spec_l02Move.calls k _ _ t279 (wrap64 (t284 - 4)) (wrap64 (t287 - 4)) t290 _ ?side1 ?side2 A5.out).mono ?_); (case side1 => exact zc HO281.out); (case side2 => exact (Kd.R_reads' HO281.out).2.1); rintro e w96 ⟨v291, rfl, ho0, hb⟩; refine ⟨_, rfl, ?_⟩; have n0_ := aM (Kd.R_elder' (mR_ HO281.out) (Kd.R_base ho0) hb); have n1_ := aM (Kd.R_lower (Kd.R_new' ho0 (Kd.R_lt (mR_ HO281.out))) (keep_size (w := w) (g := g) (row := none) (zK HK.out))); have n2_ := aM (IsS56.below (zI56 HI0.out) hb); have n3_ := aM (KeepBut.trans (zK HK.out) (KeepBut.of_below hb g none) (.inl rfl)); have n4_ := aM (below_step (zs (IsS56.ge HI0.out)) hb); clear HO281 HI0 HK HB; have HO281 := n0_; have HO292 := n1_; have HI0 := n2_; have HK := n3_; have HB := n4_; clear n0_ n1_ n2_ n3_ n4_; (try clear hb); (try clear hb2); (try clear hk); (try clear hi); (try clear ho0); obtain ⟨Ao97, co97, eo97⟩ := Kd.R_slice HO292.out; subst eo97) | ((with_reducible refine gate_callee (f := 33) rfl ?_); refine goesL_ (some 19) rfl rfl Try.func33 (by kernel_rfl) rfl #[.pointer (some ⟨g, 0, none⟩), .int .i64 (t290.length : Int)] rfl zm ?_; (with_reducible refine (spec_l01Next.calls g s0_0 t288 t289 (t290.length : Int) t293 t294 t295 w0 _ ?side1 ?side2 A6.out).mono ?_); (case side1 => exact zI56 HI0.out); (case side2 => exact zs (IsS56.ge HI0.out)); rintro e w98 ⟨rfl, hi, hb, hk⟩; refine ⟨_, rfl, ?_⟩; have n0_ := aM (Kd.R_mono (Kd.R_keep (IsS56.apart (show IsS56 w0 _ g s0_0 t288 t289 from zI56 HI0.out) (mR_ HO281.out) (by decide)) hk (fun _ h => h.2)) (fun _ h => h.1)); have n1_ := aM (Kd.R_mono (Kd.R_keep (IsS56.apart (show IsS56 w0 _ g s0_0 t288 t289 from zI56 HI0.out) (mR_ HO292.out) (by decide)) hk (fun _ h => h.2)) (fun _ h => h.1)); have n2_ := aM (KeepBut.trans (zK HK.out) hk (.inl rfl)); have n3_ := aM (hb); have n4_ := aM (hi); clear HO281 HO292 HK HB HI0; have HO281 := n0_; have HO292 := n1_; have HK := n2_; have HB := n3_; have HI0 := n4_; clear n0_ n1_ n2_ n3_ n4_; (try clear hb); (try clear hb2); (try clear hk); (try clear hi)) | ((with_reducible refine gate_callee (f := 33) rfl ?_); refine goesL_ (some 21) rfl rfl Try.func33 (by kernel_rfl) rfl #[.pointer (some ⟨g, 0, none⟩), .int .i64 24] rfl zm ?_; (with_reducible refine (spec_l01Next.calls g s0_0 t294 t295 24 t296 t297 t298 w0 _ ?side1 ?side2 A7.out).mono ?_); (case side1 => exact zI56 HI0.out); (case side2 => exact zs (IsS56.ge HI0.out)); rintro e w99 ⟨rfl, hi, hb, hk⟩; refine ⟨_, rfl, ?_⟩; have n0_ := aM (Kd.R_mono (Kd.R_keep (IsS56.apart (show IsS56 w0 _ g s0_0 t294 t295 from zI56 HI0.out) (mR_ HO281.out) (by decide)) hk (fun _ h => h.2)) (fun _ h => h.1)); have n1_ := aM (Kd.R_mono (Kd.R_keep (IsS56.apart (show IsS56 w0 _ g s0_0 t294 t295 from zI56 HI0.out) (mR_ HO292.out) (by decide)) hk (fun _ h => h.2)) (fun _ h => h.1)); have n2_ := aM (KeepBut.trans (zK HK.out) hk (.inl rfl)); have n3_ := aM (hb); have n4_ := aM (hi); clear HO281 HO292 HK HB HI0; have HO281 := n0_; have HO292 := n1_; have HK := n2_; have HB := n3_; have HI0 := n4_; clear n0_ n1_ n2_ n3_ n4_; (try clear hb); (try clear hb2); (try clear hk); (try clear hi)))
 have n0_ := aM (Kd.R_drew HO281.out)
 have n1_ := aM (Kd.R_drew HO292.out)
 have n2_ := aM (IsS56.drew HI0.out)
 have n3_ := aM (keep_drew HK.out)
 have n4_ := aM (below_drew1 HB.out)
 clear HO281
 clear HO292
 clear HI0
 clear HK
 clear HB
 have HO281 := n0_
 have HO292 := n1_
 have HI0 := n2_
 have HK := n3_
 have HB := n4_
 clear n0_ n1_ n2_ n3_ n4_
 have p328 : 0 ≤ (0 : Int) := (by omega)
 have q328 : 0 < (t290.length : Int) := of_decide_eq_true za
 obtain ⟨ad328, e328, hx328_0, hx328_1⟩ := at_T35 (Kd.R_reads' HO292.out).2.2 0 p328 q328
 cases e328
 have qi328 : (0 < t290.length) = True := eq_true (by omega)
 (try rw [show ((0 : Int)).toNat = 0 from rfl] at hx328_0)
 (try rw [show 0 * 2 = 0 from rfl] at hx328_0)
 (try rw [Addr.add_zero'] at hx328_0)
 (try rw [show ((0 : Int)).toNat = 0 from rfl] at hx328_1)
 (try rw [show 0 * 2 = 0 from rfl] at hx328_1)
 (try rw [Addr.add_zero'] at hx328_1)
 replace p328 := eq_true p328
 replace q328 := eq_true q328
 have p329 : 0 ≤ ((ji88) : Int) := of_decide_eq_true za
 have q329 : (ji88) < (t290.length : Int) := of_decide_eq_true za
 obtain ⟨ad329, e329, hx329_0, hx329_1⟩ := at_T35 (Kd.R_reads' HO292.out).2.2 (ji88) p329 q329
 obtain rfl : ad328 = ad329 := (by injection e329)
 replace p329 := eq_true p329
 replace q329 := eq_true q329
 refine start_ (n := 18) (S := fun w' => w'.cell? ad328 = some (.int .i64 ((rd_T35 t290 0).f0)) ∧ w'.cell? ⟨ad328.block, ad328.off + 1, none⟩ = some (.int .i64 ((rd_T35 t290 0).f1)) ∧ w'.cell? (ad328.add (((ji88)).toNat * 2)) = some (.int .i64 ((rd_T35 t290 (ji88)).f0)) ∧ w'.cell? ⟨(ad328.add (((ji88)).toNat * 2)).block, (ad328.add (((ji88)).toNat * 2)).off + 1, none⟩ = some (.int .i64 ((rd_T35 t290 (ji88)).f1))) (ds := [15, 16]) zA86 (by kernel_rfl) rfl rfl ⟨hx328_0, hx328_1, hx329_0, hx329_1⟩ (fun hHeld => ?_); refine with_tabW spec_l02Draw.tab20 spec_l02Draw.bits20 (fun HT_ HW_ => ?_)
 generalize w99.drew = w100 at HO281 HO292 HI0 HK HB hx328_0 hx328_1 hx329_0 hx329_1 hHeld ⊢
 refine zp 0 (some 65) ?_ zA87 rfl rfl (Or.inl ⟨by rfl, ?_⟩) ?_ ?_ ?_
 rotate_left
 ·intro w'
  go_simp
  with_reducible rfl
 rotate_left
 ·simp only [Act.put, xA, xB, xC, i64_w, i32_w]
  rfl
 refine zp 1 (some 66) ?_ zA88 rfl rfl (Or.inl ⟨by rfl, ?_⟩) ?_ ?_ ?_
 rotate_left
 ·intro w'
  go_simp
  with_reducible rfl
 rotate_left
 ·simp only [Act.put, xA, xB, xC, i64_w, i32_w]
  rfl
 refine zp 2 (some 67) ?_ zA89 rfl rfl (Or.inl ⟨by rfl, ?_⟩) ?_ ?_ ?_
 rotate_left
 ·intro w'
  go_simp
  with_reducible rfl
 rotate_left
 ·simp only [Act.put, xA, xB, xC, i64_w, i32_w]
  rfl
 refine zp 3 (some 68) ?_ zA90 rfl rfl (Or.inl ⟨by rfl, ?_⟩) ?_ ?_ ?_
 rotate_left
 ·intro w'
  go_simp
  with_reducible rfl
 rotate_left
 ·simp only [Act.put, xA, xB, xC, i64_w, i32_w]
  rfl
 refine zp 6 (some 71) ?_ zA91 rfl rfl (Or.inl ⟨by rfl, ?_⟩) ?_ ?_ ?_
 rotate_left
 ·intro w'
  go_simp
  with_reducible rfl
 rotate_left
 ·simp only [Act.put, xA, xB, xC, i64_w, i32_w]
  rfl
 refine zp 7 (some 72) ?_ zA92 rfl rfl (Or.inl ⟨by rfl, ?_⟩) ?_ ?_ ?_
 rotate_left
 ·intro w'
  go_simp
  with_reducible rfl
 rotate_left
 ·simp only [Act.put, xA, xB, xC, i64_w, i32_w]
  rfl
 refine zp 8 (some 73) ?_ zA93 rfl rfl (Or.inl ⟨by rfl, ?_⟩) ?_ ?_ ?_
 rotate_left
 ·intro w'
  go_simp
  with_reducible rfl
 rotate_left
 ·simp only [Act.put, xA, xB, xC, i64_w, i32_w]
  rfl
 refine zp 9 (some 74) ?_ zA94 rfl rfl (Or.inl ⟨by rfl, ?_⟩) ?_ ?_ ?_
 rotate_left
 ·intro w'
  go_simp
  with_reducible rfl
 rotate_left
 ·simp only [Act.put, xA, xB, xC, i64_w, i32_w]
  rfl
 refine zp 10 (some 75) ?_ zA95 rfl rfl (Or.inl ⟨by rfl, ?_⟩) ?_ ?_ ?_
 rotate_left
 ·intro w'
  go_simp
  with_reducible rfl
 rotate_left
 ·simp only [Act.put, xA, xB, xC, i64_w, i32_w]
  rfl
 refine zp 11 (some 76) ?_ zA96 rfl rfl (Or.inl ⟨by rfl, ?_⟩) ?_ ?_ ?_
 rotate_left
 ·intro w'
  go_simp
  with_reducible rfl
 rotate_left
 ·simp only [Act.put, xA, xB, xC, i64_w, i32_w]
  rfl
 refine zu 4 (some 69) ?_ zA97 rfl rfl (Or.inl ⟨by rfl, ?_⟩) hHeld ?_ ?_ ?_
 rotate_left
 ·rintro w' ⟨s0, s1, s2, s3⟩
  go_simp
  with_reducible rfl
 rotate_left
 ·simp only [Act.put, xA, xB, xC, i64_w, i32_w]
  rfl
 refine zp 5 (some 70) ?_ zA98 rfl rfl (Or.inl ⟨by rfl, ?_⟩) ?_ ?_ ?_
 rotate_left
 ·intro w'
  go_simp
  with_reducible rfl
 rotate_left
 ·simp only [Act.put, xA, xB, xC, i64_w, i32_w]
  rfl
 refine zu 12 (some 77) ?_ zA99 rfl rfl (Or.inl ⟨by rfl, ?_⟩) hHeld ?_ ?_ ?_
 rotate_left
 ·rintro w' ⟨s0, s1, s2, s3⟩
  go_simp
  with_reducible rfl
 rotate_left
 ·simp only [Act.put, xA, xB, xC, i64_w, i32_w]
  rfl
 refine zp 13 (some 78) ?_ zA100 rfl rfl (Or.inl ⟨by rfl, ?_⟩) ?_ ?_ ?_
 rotate_left
 ·intro w'
  go_simp
  with_reducible rfl
 rotate_left
 ·simp only [Act.put, xA, xB, xC, i64_w, i32_w]
  rfl
 refine zp 14 (some 79) ?_ zA101 rfl rfl (Or.inl ⟨by rfl, ?_⟩) ?_ ?_ ?_
 rotate_left
 ·intro w'
  go_simp
  with_reducible rfl
 rotate_left
 ·simp only [Act.put, xA, xB, xC, i64_w, i32_w]
  rfl
 refine last_ (i := 15) (N := some 80) zA102 rfl rfl (one_of HT_.out (by kernel_rfl)) (by decide) (fun K hK => ?_)
 refine value_ (w1 := ?_) (v := ?_) (by rfl) rfl ?_ ?_
 rotate_left 2
 ·go_simp
  constructor
  ·rfl
  ·rfl
 refine hK.out _ _ ?_
 clear hK K
 refine norm_ (a' := ?_) ?_ ?_
 rotate_left
 ·show Act.put _ (some 80) _ = _
  simp only [Act.put, xA, xB, xC, i64_w, i32_w]
  rfl
 refine last_ (i := 16) (N := some 81) zA103 rfl rfl (one_of HT_.out (by kernel_rfl)) (by decide) (fun K hK => ?_)
 refine Kd.R_append_step k35 w.heap.size (by rfl) (.tmp 65) (.tmp 80) 26 35 (.agg #[(.int .i64 0), (.int .i64 0)]) 16 rfl Try.underlying26 info35 rfl (by decide) (by omega) (.slice (some ad328) t290.length co97) t290 (⟨wrap64 (((rd_T35 t290 0).f0) + 3), wrap64 (((rd_T35 t290 (ji88)).f1) + 2)⟩ : S35) [.int .i64 (wrap64 (((rd_T35 t290 0).f0) + 3)), .int .i64 (wrap64 (((rd_T35 t290 (ji88)).f1) + 2))] (fun k_ => some k_ ≠ (.slice Ao95 t279.length co95 : Value).ownBlock) (fun _ => False) rfl rfl ?aP (fun _ hk => hk.elim) ?aF ?aO (Below.refl _ _) ?aS ?aL ?_
 (case aP => exact k35_mkM _ _ _ (⟨wrap64 (((rd_T35 t290 0).f0) + 3), wrap64 (((rd_T35 t290 (ji88)).f1) + 2)⟩ : S35))
 (case aF => exact (fun k_ hk => Kd.fresh' (Kd.R_lt (mR_ HO281.out)) k_ hk))
 (case aO => exact (zd4 HO292.out))
 (case aS => exact (keep_size (w := w) (g := g) (row := none) (zK HK.out)))
 (case aL => have := LMc91.out; omega)
 intro v331 w101 ho hb hg hat
 rw [← Ny330.out] at ho
 have n0_ := aM (IsS56.grown (zI56 HI0.out) hg (IsS56.own_ne HI0.out HO292.out (by decide)))
 have n1_ := aM (Kd.R_after (ok := (fun _ => True)) (mR_ HO281.out) hg hat)
 have n2_ := aM (below_weaken (zs (IsS56.ge HI0.out)) HL.out hb)
 have n3_ := aM (KeepBut.trans (zK HK.out) (KeepBut.of_grown hg g) (Kd.R_base2 HO292.out))
 have n4_ := aM (ho)
 clear HI0
 clear HO281
 clear HB
 clear HK
 clear HO292
 have HI0 := n0_
 have HO281 := n1_
 have HB := n2_
 have HK := n3_
 have HO332 := n4_
 clear n0_ n1_ n2_ n3_ n4_
 clear ho hb hg hat
 refine hK.out _ _ ?_
 clear hK K
 refine norm_ (a' := ?_) ?_ ?_
 rotate_left
 ·show Act.put _ (some 81) _ = _
  simp only [Act.put, xA, xB, xC, i64_w, i32_w]
  rfl
 refine zp 17 (some 2) ?_ zA104 rfl rfl (Or.inl ⟨by rfl, ?_⟩) ?_ ?_ ?_
 rotate_left
 ·intro w'
  go_simp
  with_reducible rfl
 rotate_left
 ·simp only [Act.put, xA, xB, xC, i64_w, i32_w]
  rfl
 refine done_ (done_of HT_.out (by kernel_rfl)) ?_
 try go_wp2
 go_ret
 exact ⟨_, by first | rfl | (simp [errW_none, errW_some] <;> rfl) | (simp only [← hji88]; first | rfl | (simp [errW_none, errW_some] <;> rfl)) | (simp [*, errW_none, errW_some] <;> rfl), zd2 HO332.out, zI56 HI0.out, zs (IsS56.ge HI0.out), zK HK.out⟩
end Go.Proofs.Ytpoiiaephcddoaa.F
end
section
namespace Go.Proofs.Ytpoiiaephcddoaa.F
open Go.RowKit Go.Proofs.YtpoiiaephcddoaaW.PrintWords Go.Proofs.YtpoiiaephcddoaaW.PrintLast Go.Proofs.YtpoiiaephcddoaaW.PrintMore
attribute [local go_sem] max2_int min2_int max_two min_two max_three min_three max_four min_four
set_option linter.unusedVariables false
set_option linter.unusedSimpArgs false
mutual
def spec_l06Draw.l0 : Nat → Int → Int → List (S35) → Int → List Int → Int → Int → Option ((List (S35)) × Int × Int)
 | 0, _, _, _, _, _, _, _ => none
 | k + 1, x3, x4, x5, x6, x1000, x1001, x1002 => if x6 < x4 then (spec_l06Draw.l1 k x3 x4 x5 x6 0 x1000 x1001 x1002) else (some (x5, x1001, x1002))
def spec_l06Draw.l1 : Nat → Int → Int → List (S35) → Int → Int → List Int → Int → Int → Option ((List (S35)) × Int × Int)
 | 0, _, _, _, _, _, _, _, _ => none
 | k + 1, x3, x4, x5, x6, x7, x1000, x1001, x1002 => if x7 < x3 then (if x7 = 0 then (spec_l06Draw.j2 k x3 x4 x5 x6 x7 true x1000 x1001 x1002) else (if x6 = 0 then (spec_l06Draw.j2 k x3 x4 x5 x6 x7 true x1000 x1001 x1002) else (if x7 = (wrap64 (x3 - 1)) then (spec_l06Draw.j2 k x3 x4 x5 x6 x7 true x1000 x1001 x1002) else (spec_l06Draw.j2 k x3 x4 x5 x6 x7 (x6 == (wrap64 (x4 - 1))) x1000 x1001 x1002)))) else (spec_l06Draw.l0 k x3 x4 x5 (wrap64 (x6 + 1)) x1000 x1001 x1002)
def spec_l06Draw.j2 : Nat → Int → Int → List (S35) → Int → Int → Bool → List Int → Int → Int → Option ((List (S35)) × Int × Int)
 | 0, _, _, _, _, _, _, _, _, _ => none
 | k + 1, x3, x4, x5, x6, x7, x8, x1000, x1001, x1002 => if x8 = true then ((spec_l01Next.f x1000 x1001 x1002 12).bind fun bt350 => (if bt350.1 > 0 then (if x5.length < 8796093022208 then (spec_l06Draw.l1 k x3 x4 (x5 ++ [(⟨x7, x6⟩ : S35)]) x6 (wrap64 (x7 + 1)) x1000 bt350.2.1 bt350.2.2) else (none)) else (spec_l06Draw.l1 k x3 x4 x5 x6 (wrap64 (x7 + 1)) x1000 bt350.2.1 bt350.2.2))) else ((spec_l01Next.f x1000 x1001 x1002 3).bind fun bt356 => (if bt356.1 = 0 then (if x5.length < 8796093022208 then (spec_l06Draw.l1 k x3 x4 (x5 ++ [(⟨x7, x6⟩ : S35)]) x6 (wrap64 (x7 + 1)) x1000 bt356.2.1 bt356.2.2) else (none)) else (spec_l06Draw.l1 k x3 x4 x5 x6 (wrap64 (x7 + 1)) x1000 bt356.2.1 bt356.2.2)))
end
def spec_l06Draw.f (k : Nat) (s0_0 : List Int) (s0_1 : Int) (s0_2 : Int) : Option ((List (S35)) × Int × Int) := (spec_l01Next.f s0_0 s0_1 s0_2 3).bind fun bt333 => (if bt333.1 = 0 then ((spec_l02Draw.f k s0_0 bt333.2.1 bt333.2.2).bind fun bt336 => (some (bt336.1, bt336.2.1, bt336.2.2))) else ((spec_l01Next.f s0_0 bt333.2.1 bt333.2.2 4).bind fun bt341 => ((spec_l01Next.f s0_0 bt341.2.1 bt341.2.2 3).bind fun bt344 => (spec_l06Draw.l0 k (wrap64 (3 + bt341.1)) (wrap64 (3 + bt344.1)) (([] : List (S35))) 0 s0_0 bt344.2.1 bt344.2.2))))
theorem spec_l06Draw.calls (k : Nat) (g : Nat) (s0_0 : List Int) (s0_1 : Int) (s0_2 : Int) (r1 : List (S35)) (r2 : Int) (r3 : Int) (w0 w : World) (hI : IsS56 w0 w g s0_0 s0_1 s0_2) (hB : Below w0.heap.size w0 w) (h : spec_l06Draw.f k s0_0 s0_1 s0_2 = some (r1, r2, r3)) :
  Calls Try.prog 22 #[.pointer (some ⟨g, 0, none⟩)] w fun e w' => ∃ v0_ : Value, e = .returned (v0_) ∧ Kd.R k35 35 w' w.heap.size (fun _ => True) v0_ r1 ∧ IsS56 w0 w' g s0_0 r2 r3 ∧ Below w0.heap.size w0 w' ∧ KeepBut w w' g none := by
 have hu35 := Try.underlying35
 have HI0 := aM hI
 have HK := aM (KeepBut.refl w g none)
 have HL := aM hB.size
 clear hI
 have HW0 := aM hB.size
 have HB := aM hB
 clear hB
 have H : ((spec_l01Next.f s0_0 s0_1 s0_2 3).bind fun bt333 => (if bt333.1 = 0 then ((spec_l02Draw.f k s0_0 bt333.2.1 bt333.2.2).bind fun bt336 => (some (bt336.1, bt336.2.1, bt336.2.2))) else ((spec_l01Next.f s0_0 bt333.2.1 bt333.2.2 4).bind fun bt341 => ((spec_l01Next.f s0_0 bt341.2.1 bt341.2.2 3).bind fun bt344 => (spec_l06Draw.l0 k (wrap64 (3 + bt341.1)) (wrap64 (3 + bt344.1)) (([] : List (S35))) 0 s0_0 bt344.2.1 bt344.2.2))))) = some (r1, r2, r3) := h
 clear h
 replace H := Option.bind_eq_some_iff.mp H
 obtain ⟨⟨t333, t334, t335⟩, A20, H⟩ := H
 replace H : (if t333 = 0 then ((spec_l02Draw.f k s0_0 t334 t335).bind fun bt336 => (some (bt336.1, bt336.2.1, bt336.2.2))) else ((spec_l01Next.f s0_0 t334 t335 4).bind fun bt341 => ((spec_l01Next.f s0_0 bt341.2.1 bt341.2.2 3).bind fun bt344 => (spec_l06Draw.l0 k (wrap64 (3 + bt341.1)) (wrap64 (3 + bt344.1)) (([] : List (S35))) 0 s0_0 bt344.2.1 bt344.2.2)))) = some (r1, r2, r3) := H
 have A2 := aM A20
 clear A20
 by_cases c3 : t333 = 0
 ·rw [if_pos c3] at H
  have c3b0 : (t333 == 0) = true := beq_iff_eq.mpr c3
  have c3b1 : (t333 != 0) = false := bne_eq_false_iff_eq.mpr c3
  clear c3
  replace H := Option.bind_eq_some_iff.mp H
  obtain ⟨⟨t336, t339, t340⟩, A40, H⟩ := H
  replace H : (some (t336, t339, t340)) = some (r1, r2, r3) := H
  have A4 := aM A40
  clear A40
  simp only [Option.some.injEq, Prod.mk.injEq] at H
  obtain ⟨rfl, rfl, rfl⟩ := H
  go_enter Try.func22, Try.ntmps22
  go_wp2_with (first | ((with_reducible refine gate_callee (f := 33) rfl ?_); refine goesL_ (some 10) rfl rfl Try.func33 (by kernel_rfl) rfl #[.pointer (some ⟨g, 0, none⟩), .int .i64 3] rfl zm ?_; (with_reducible refine (spec_l01Next.calls g s0_0 s0_1 s0_2 3 t333 t334 t335 w0 _ ?side1 ?side2 A2.out).mono ?_); (case side1 => exact zI56 HI0.out); (case side2 => exact zs (IsS56.ge HI0.out)); rintro e w5 ⟨rfl, hi, hb, hk⟩; refine ⟨_, rfl, ?_⟩; have n0_ := aM (KeepBut.trans (zK HK.out) hk (.inl rfl)); have n1_ := aM (hb); have n2_ := aM (hi); clear HK HB HI0; have HK := n0_; have HB := n1_; have HI0 := n2_; clear n0_ n1_ n2_; (try clear hb); (try clear hb2); (try clear hk); (try clear hi)) | ((with_reducible refine gate_callee (f := 34) rfl ?_); refine goesL_ (some 13) rfl rfl Try.func34 (by kernel_rfl) rfl #[.pointer (some ⟨g, 0, none⟩)] rfl zm ?_; (with_reducible refine (spec_l02Draw.calls k g s0_0 t334 t335 t336 t339 t340 w0 _ ?side1 ?side2 A4.out).mono ?_); (case side1 => exact zI56 HI0.out); (case side2 => exact zs (IsS56.ge HI0.out)); rintro e w6 ⟨v337, rfl, ho0, hi, hb, hk⟩; refine ⟨_, rfl, ?_⟩; have n0_ := aM (Kd.R_lower ho0 (keep_size (w := w) (g := g) (row := none) (zK HK.out))); have n1_ := aM (KeepBut.trans (zK HK.out) hk (.inl rfl)); have n2_ := aM (hb); have n3_ := aM (hi); clear HK HB HI0; have HO338 := n0_; have HK := n1_; have HB := n2_; have HI0 := n3_; clear n0_ n1_ n2_ n3_; (try clear hb); (try clear hb2); (try clear hk); (try clear hi); (try clear ho0)))
  go_ret
  exact ⟨_, zw, mR_ HO338.out, zI56 HI0.out, zs (IsS56.ge HI0.out), zK HK.out⟩
 rw [if_neg c3] at H
 have c3b0 : (t333 == 0) = false := beq_eq_false_iff_ne.mpr c3
 have c3b1 : (t333 != 0) = true := bne_iff_ne.mpr c3
 replace H := Option.bind_eq_some_iff.mp H
 obtain ⟨⟨t341, t342, t343⟩, A70, H⟩ := H
 replace H : ((spec_l01Next.f s0_0 t342 t343 3).bind fun bt344 => (spec_l06Draw.l0 k (wrap64 (3 + t341)) (wrap64 (3 + bt344.1)) (([] : List (S35))) 0 s0_0 bt344.2.1 bt344.2.2)) = some (r1, r2, r3) := H
 have A7 := aM A70
 clear A70
 replace H := Option.bind_eq_some_iff.mp H
 obtain ⟨⟨t344, t345, t346⟩, A80, H⟩ := H
 replace H : (spec_l06Draw.l0 k (wrap64 (3 + t341)) (wrap64 (3 + t344)) (([] : List (S35))) 0 s0_0 t345 t346) = some (r1, r2, r3) := H
 have A8 := aM A80
 clear A80
 obtain ⟨y347, hy347⟩ : ∃ y_ : List (S35), y_ = (([] : List (S35))) := ⟨_, rfl⟩
 replace H : (spec_l06Draw.l0 k (wrap64 (3 + t341)) (wrap64 (3 + t344)) y347 0 s0_0 t345 t346) = some (r1, r2, r3) := zy H hy347
 have Ny347 := aM hy347
 clear hy347
 have H' := aM H
 clear H
 go_enter Try.func22, Try.ntmps22
 go_wp2_with (first | ((with_reducible refine gate_callee (f := 33) rfl ?_); refine goesL_ (some 10) rfl rfl Try.func33 (by kernel_rfl) rfl #[.pointer (some ⟨g, 0, none⟩), .int .i64 3] rfl zm ?_; (with_reducible refine (spec_l01Next.calls g s0_0 s0_1 s0_2 3 t333 t334 t335 w0 _ ?side1 ?side2 A2.out).mono ?_); (case side1 => exact zI56 HI0.out); (case side2 => exact zs (IsS56.ge HI0.out)); rintro e w9 ⟨rfl, hi, hb, hk⟩; refine ⟨_, rfl, ?_⟩; have n0_ := aM (KeepBut.trans (zK HK.out) hk (.inl rfl)); have n1_ := aM (hb); have n2_ := aM (hi); clear HK HB HI0; have HK := n0_; have HB := n1_; have HI0 := n2_; clear n0_ n1_ n2_; (try clear hb); (try clear hb2); (try clear hk); (try clear hi)) | ((with_reducible refine gate_callee (f := 33) rfl ?_); refine goesL_ (some 15) rfl rfl Try.func33 (by kernel_rfl) rfl #[.pointer (some ⟨g, 0, none⟩), .int .i64 4] rfl zm ?_; (with_reducible refine (spec_l01Next.calls g s0_0 t334 t335 4 t341 t342 t343 w0 _ ?side1 ?side2 A7.out).mono ?_); (case side1 => exact zI56 HI0.out); (case side2 => exact zs (IsS56.ge HI0.out)); rintro e w10 ⟨rfl, hi, hb, hk⟩; refine ⟨_, rfl, ?_⟩; have n0_ := aM (KeepBut.trans (zK HK.out) hk (.inl rfl)); have n1_ := aM (hb); have n2_ := aM (hi); clear HK HB HI0; have HK := n0_; have HB := n1_; have HI0 := n2_; clear n0_ n1_ n2_; (try clear hb); (try clear hb2); (try clear hk); (try clear hi)) | ((with_reducible refine gate_callee (f := 33) rfl ?_); refine goesL_ (some 18) rfl rfl Try.func33 (by kernel_rfl) rfl #[.pointer (some ⟨g, 0, none⟩), .int .i64 3] rfl zm ?_; (with_reducible refine (spec_l01Next.calls g s0_0 t342 t343 3 t344 t345 t346 w0 _ ?side1 ?side2 A8.out).mono ?_); (case side1 => exact zI56 HI0.out); (case side2 => exact zs (IsS56.ge HI0.out)); rintro e w11 ⟨rfl, hi, hb, hk⟩; refine ⟨_, rfl, ?_⟩; have n0_ := aM (KeepBut.trans (zK HK.out) hk (.inl rfl)); have n1_ := aM (hb); have n2_ := aM (hi); clear HK HB HI0; have HK := n0_; have HB := n1_; have HI0 := n2_; clear n0_ n1_ n2_; (try clear hb); (try clear hb2); (try clear hk); (try clear hi)) | ((with_reducible refine gate_dst (N := 20) rfl ?_); refine Kd.R_lit k35 _ 35 ?hg (N := 20) ?hd (xs := ([] : List (S35))) (inner := []) (ok := fun _ => True) (okp := fun _ => True) ?hr ?hp (fun _ hk => hk) trivial (Below.refl _ _) (Nat.le_refl _) (by simp) ?_; (case hd => rfl); (case hg => rfl); (case hr => first | (go_simp; done) | (go_simp; rfl)); (case hp => exact (Reps.none _ _)); intro v348 w12 ho13 hb hg_ hnew_; clear hg_ hnew_; (first | rw [← Ny347.out] at ho13 | (simp only [Int.reduceToNat] at ho13; rw [← Ny347.out] at ho13)); have n0_ := aM (Kd.R_lower ho13 (keep_size (w := w) (g := g) (row := none) (zK HK.out))); have n1_ := aM (IsS56.below (zI56 HI0.out) hb); have n2_ := aM (KeepBut.trans (zK HK.out) (KeepBut.of_below hb g none) (.inl rfl)); have n3_ := aM (below_step (zs (IsS56.ge HI0.out)) hb); clear HI0 HK HB; have HO349 := n0_; have HI0 := n1_; have HK := n2_; have HB := n3_; clear n0_ n1_ n2_ n3_; clear hb ho13))
 go_loopg [5, 6] k (fun kq v5 v6 w' => ∃ (x5_1 : List (S35)) (x6_1 : Int) (x1001_1 : Int) (x1002_1 : Int), v6 = .int .i64 x6_1 ∧ Aside0 (spec_l06Draw.l0 kq (wrap64 (3 + t341)) (wrap64 (3 + t344)) x5_1 x6_1 s0_0 x1001_1 x1002_1 = some (r1, r2, r3)) ∧ Aside0 (kq ≤ k) ∧ Aside0 (Kd.R k35 35 w' w.heap.size (fun _ => True) v5 x5_1) ∧ Aside0 (IsS56 w0 w' g s0_0 x1001_1 x1002_1) ∧ Aside0 (KeepBut w w' g none) ∧ Aside0 (Below w0.heap.size w0 w'))
 case atStart => exact ⟨(y347), (0), (t345), (t346), zr, H', ⟨Nat.le_refl _⟩, ⟨mR_ HO349.out⟩, ⟨zI56 HI0.out⟩, ⟨zK HK.out⟩, ⟨zs (IsS56.ge HI0.out)⟩⟩
 case round =>
  clear H'
  try clear c2
  try clear p2
  try clear c3
  try clear c3b0
  try clear c3b1
  try clear p6
  obtain ⟨x5_1, x6_1, x1001_1, x1002_1, rfl, HA, HK1, HO_5, HI0, HK, HB⟩ := hrel
  cases gk with
  | zero => exact absurd HA.out (by simp [spec_l06Draw.l0])
  | succ k1 =>
   have H := HA.out
   clear HA
   simp only [spec_l06Draw.l0] at H
   by_cases c14 : x6_1 < (wrap64 (3 + t344))
   rotate_left
   ·rw [if_neg c14] at H
    have c14b0 : decide (x6_1 < (wrap64 (3 + t344))) = false := decide_eq_false c14
    clear c14
    simp only [Option.some.injEq, Prod.mk.injEq] at H
    obtain ⟨rfl, rfl, rfl⟩ := H
    go_wp2
    go_ret
    exact ⟨_, zw, mR_ HO_5.out, zI56 HI0.out, zs (IsS56.ge HI0.out), zK HK.out⟩
   rw [if_pos c14] at H
   have c14b0 : decide (x6_1 < (wrap64 (3 + t344))) = true := decide_eq_true c14
   clear c14
   have H' := aM H
   clear H
   go_wp2
   go_loopg [5, 7] k1 (fun kq v5 v7 w' => ∃ (x5_2 : List (S35)) (x7_2 : Int) (x1001_2 : Int) (x1002_2 : Int), v7 = .int .i64 x7_2 ∧ Aside0 (spec_l06Draw.l1 kq (wrap64 (3 + t341)) (wrap64 (3 + t344)) x5_2 x6_1 x7_2 s0_0 x1001_2 x1002_2 = some (r1, r2, r3)) ∧ Aside0 (kq ≤ k1) ∧ Aside0 (Kd.R k35 35 w' w.heap.size (fun _ => True) v5 x5_2) ∧ Aside0 (IsS56 w0 w' g s0_0 x1001_2 x1002_2) ∧ Aside0 (KeepBut w w' g none) ∧ Aside0 (Below w0.heap.size w0 w'))
   case atStart => exact ⟨(x5_1), (0), (x1001_1), (x1002_1), zr, H', ⟨Nat.le_refl _⟩, ⟨mR_ HO_5.out⟩, ⟨zI56 HI0.out⟩, ⟨zK HK.out⟩, ⟨zs (IsS56.ge HI0.out)⟩⟩
   case round =>
    clear H'
    try clear c1
    try clear c2
    try clear p2
    try clear c3
    try clear c3b0
    try clear c3b1
    try clear p6
    try clear c14
    try clear c14b0
    try clear p2
    try clear p6
    obtain ⟨x5_2, x7_2, x1001_2, x1002_2, rfl, HA, HK2, HO_5, HI0, HK, HB⟩ := hrel
    cases gk with
    | zero => exact absurd HA.out (by simp [spec_l06Draw.l1])
    | succ k2 =>
     have H := HA.out
     clear HA
     simp only [spec_l06Draw.l1] at H
     by_cases c15 : x7_2 < (wrap64 (3 + t341))
     rotate_left
     ·rw [if_neg c15] at H
      have c15b0 : decide (x7_2 < (wrap64 (3 + t341))) = false := decide_eq_false c15
      clear c15
      have H' := aM H
      clear H
      go_wp2
      go_roundg k2
      case measure => have := HK1.out; have := HK2.out; omega
      case rel => exact ⟨(x5_2), (wrap64 (x6_1 + 1)), (x1001_2), (x1002_2), zr, H', ⟨by have := HK1.out; have := HK2.out; omega⟩, ⟨mR_ HO_5.out⟩, ⟨zI56 HI0.out⟩, ⟨zK HK.out⟩, ⟨zs (IsS56.ge HI0.out)⟩⟩
     rw [if_pos c15] at H
     have c15b0 : decide (x7_2 < (wrap64 (3 + t341))) = true := decide_eq_true c15
     clear c15
     have HC16 := aM H
     clear H
     go_upto_region 11 with (fail)
     go_cut [8] (fun v8 wc => ∃ (kq : Nat) (x8_15 : Bool), v8 = .bool x8_15 ∧ Aside0 (spec_l06Draw.j2 kq (wrap64 (3 + t341)) (wrap64 (3 + t344)) x5_2 x6_1 x7_2 x8_15 s0_0 x1001_2 x1002_2 = some (r1, r2, r3)) ∧ Aside0 (kq ≤ k2) ∧ Aside0 (Kd.R k35 35 wc w.heap.size (fun _ => True) u5 x5_2) ∧ Aside0 (IsS56 w0 wc g s0_0 x1001_2 x1002_2) ∧ Aside0 (KeepBut w wc g none) ∧ Aside0 (Below w0.heap.size w0 wc))
     case first =>
      have H := HC16.out
      clear HC16
      by_cases c17 : x7_2 = 0
      ·rw [if_pos c17] at H
       have c17b0 : (x7_2 == 0) = true := beq_iff_eq.mpr c17
       have c17b1 : (x7_2 != 0) = false := bne_eq_false_iff_eq.mpr c17
       clear c17
       (first | rw [c17b0] | (simp only [i64_w, i32_w]; rw [c17b0]) | skip)
       have H' := aM H
       clear H
       go_wp2
       go_meet
       case rel => exact ⟨_, (true), zr, H', ⟨by have := HK1.out; have := HK2.out; first | omega | exact Nat.le_refl _⟩, ⟨mR_ HO_5.out⟩, ⟨zI56 HI0.out⟩, ⟨zK HK.out⟩, ⟨zs (IsS56.ge HI0.out)⟩⟩
      rw [if_neg c17] at H
      have c17b0 : (x7_2 == 0) = false := beq_eq_false_iff_ne.mpr c17
      have c17b1 : (x7_2 != 0) = true := bne_iff_ne.mpr c17
      (first | rw [c17b0] | (simp only [i64_w, i32_w]; rw [c17b0]) | skip)
      by_cases c18 : x6_1 = 0
      ·rw [if_pos c18] at H
       have c18b0 : (x6_1 == 0) = true := beq_iff_eq.mpr c18
       have c18b1 : (x6_1 != 0) = false := bne_eq_false_iff_eq.mpr c18
       clear c18
       have H' := aM H
       clear H
       go_wp2
       go_meet
       case rel => exact ⟨_, (true), zr, H', ⟨by have := HK1.out; have := HK2.out; first | omega | exact Nat.le_refl _⟩, ⟨mR_ HO_5.out⟩, ⟨zI56 HI0.out⟩, ⟨zK HK.out⟩, ⟨zs (IsS56.ge HI0.out)⟩⟩
      rw [if_neg c18] at H
      have c18b0 : (x6_1 == 0) = false := beq_eq_false_iff_ne.mpr c18
      have c18b1 : (x6_1 != 0) = true := bne_iff_ne.mpr c18
      by_cases c19 : x7_2 = (wrap64 ((wrap64 (3 + t341)) - 1))
      rotate_left
      ·rw [if_neg c19] at H
       have c19b0 : (x7_2 == (wrap64 ((wrap64 (3 + t341)) - 1))) = false := beq_eq_false_iff_ne.mpr c19
       have c19b1 : (x7_2 != (wrap64 ((wrap64 (3 + t341)) - 1))) = true := bne_iff_ne.mpr c19
       have H' := aM H
       clear H
       go_wp2
       go_meet
       case rel => exact ⟨_, ((x6_1 == (wrap64 ((wrap64 (3 + t344)) - 1)))), zr, H', ⟨by have := HK1.out; have := HK2.out; first | omega | exact Nat.le_refl _⟩, ⟨mR_ HO_5.out⟩, ⟨zI56 HI0.out⟩, ⟨zK HK.out⟩, ⟨zs (IsS56.ge HI0.out)⟩⟩
      rw [if_pos c19] at H
      have c19b0 : (x7_2 == (wrap64 ((wrap64 (3 + t341)) - 1))) = true := beq_iff_eq.mpr c19
      have c19b1 : (x7_2 != (wrap64 ((wrap64 (3 + t341)) - 1))) = false := bne_eq_false_iff_eq.mpr c19
      clear c19
      have H' := aM H
      clear H
      go_wp2
      go_meet
      case rel => exact ⟨_, (true), zr, H', ⟨by have := HK1.out; have := HK2.out; first | omega | exact Nat.le_refl _⟩, ⟨mR_ HO_5.out⟩, ⟨zI56 HI0.out⟩, ⟨zK HK.out⟩, ⟨zs (IsS56.ge HI0.out)⟩⟩
     case rest =>
      clear HC16
      try clear c1
      try clear c2
      try clear p2
      try clear c3
      try clear c3b0
      try clear c3b1
      try clear p6
      try clear c14
      try clear c14b0
      try clear c15
      try clear c15b0
      try clear c17
      try clear c17b0
      try clear c17b1
      try clear c18
      try clear c18b0
      try clear c18b1
      try clear c19
      try clear c19b0
      try clear c19b1
      try clear p2
      try clear p6
      obtain ⟨kq, x8_15, rfl, HA, HJ15, HO_5, HI0, HK, HB⟩ := hcut
      cases kq with
      | zero => exact absurd HA.out (by simp [spec_l06Draw.j2])
      | succ kj15 =>
       have H := HA.out
       clear HA
       simp only [spec_l06Draw.j2] at H
       by_cases c20 : x8_15 = true
       ·subst c20
        have H1 : ((spec_l01Next.f s0_0 x1001_2 x1002_2 12).bind fun bt350 => (if bt350.1 > 0 then (if x5_2.length < 8796093022208 then (spec_l06Draw.l1 kj15 (wrap64 (3 + t341)) (wrap64 (3 + t344)) (x5_2 ++ [(⟨x7_2, x6_1⟩ : S35)]) x6_1 (wrap64 (x7_2 + 1)) s0_0 bt350.2.1 bt350.2.2) else (none)) else (spec_l06Draw.l1 kj15 (wrap64 (3 + t341)) (wrap64 (3 + t344)) x5_2 x6_1 (wrap64 (x7_2 + 1)) s0_0 bt350.2.1 bt350.2.2))) = some (r1, r2, r3) := by rw [if_pos rfl] at H; exact H
        clear H
        have H := H1
        clear H1
        replace H := Option.bind_eq_some_iff.mp H
        obtain ⟨⟨t350, t351, t352⟩, A210, H⟩ := H
        replace H : (if t350 > 0 then (if x5_2.length < 8796093022208 then (spec_l06Draw.l1 kj15 (wrap64 (3 + t341)) (wrap64 (3 + t344)) (x5_2 ++ [(⟨x7_2, x6_1⟩ : S35)]) x6_1 (wrap64 (x7_2 + 1)) s0_0 t351 t352) else (none)) else (spec_l06Draw.l1 kj15 (wrap64 (3 + t341)) (wrap64 (3 + t344)) x5_2 x6_1 (wrap64 (x7_2 + 1)) s0_0 t351 t352)) = some (r1, r2, r3) := H
        have A21 := aM A210
        clear A210
        by_cases c22 : t350 > 0
        rotate_left
        ·rw [if_neg c22] at H
         have c22b0 : decide (0 < t350) = false := decide_eq_false c22
         clear c22
         have H' := aM H
         clear H
         go_wp2_with (first | (go_at_call 33; (with_reducible refine (spec_l01Next.calls g s0_0 x1001_2 x1002_2 12 t350 t351 t352 w0 _ ?side1 ?side2 A21.out).mono ?_); (case side1 => exact zI56 HI0.out); (case side2 => exact zs (IsS56.ge HI0.out)); rintro e w26 ⟨rfl, hi, hb, hk⟩; have n0_ := aM (Kd.R_mono (Kd.R_keep (IsS56.apart (show IsS56 w0 _ g s0_0 x1001_2 x1002_2 from zI56 HI0.out) (mR_ HO_5.out) (by decide)) hk (fun _ h => h.2)) (fun _ h => h.1)); have n1_ := aM (KeepBut.trans (zK HK.out) hk (.inl rfl)); have n2_ := aM (hb); have n3_ := aM (hi); clear HO_5 HK HB HI0; have HO_5 := n0_; have HK := n1_; have HB := n2_; have HI0 := n3_; clear n0_ n1_ n2_ n3_; (try clear hb); (try clear hb2); (try clear hk); (try clear hi)))
         go_roundg kj15
         case measure => have := HK1.out; have := HK2.out; have := HJ15.out; omega
         case rel => exact ⟨(x5_2), (wrap64 (x7_2 + 1)), (t351), (t352), zr, H', ⟨by have := HK1.out; have := HK2.out; have := HJ15.out; omega⟩, ⟨mR_ HO_5.out⟩, ⟨zI56 HI0.out⟩, ⟨zK HK.out⟩, ⟨zs (IsS56.ge HI0.out)⟩⟩
        rw [if_pos c22] at H
        have c22b0 : decide (0 < t350) = true := decide_eq_true c22
        clear c22
        by_cases c23 : x5_2.length < 8796093022208
        rotate_left
        ·rw [if_neg c23] at H
         exact absurd H (by simp)
        rw [if_pos c23] at H
        have LMc23 := aM c23
        clear c23
        obtain ⟨y353, hy353⟩ : ∃ y_ : List (S35), y_ = (x5_2 ++ [(⟨x7_2, x6_1⟩ : S35)]) := ⟨_, rfl⟩
        replace H : (spec_l06Draw.l1 kj15 (wrap64 (3 + t341)) (wrap64 (3 + t344)) y353 x6_1 (wrap64 (x7_2 + 1)) s0_0 t351 t352) = some (r1, r2, r3) := zy H hy353
        have Ny353 := aM hy353
        clear hy353
        have H' := aM H
        clear H
        go_wp2_with (first | (go_at_call 33; (with_reducible refine (spec_l01Next.calls g s0_0 x1001_2 x1002_2 12 t350 t351 t352 w0 _ ?side1 ?side2 A21.out).mono ?_); (case side1 => exact zI56 HI0.out); (case side2 => exact zs (IsS56.ge HI0.out)); rintro e w24 ⟨rfl, hi, hb, hk⟩; have n0_ := aM (Kd.R_mono (Kd.R_keep (IsS56.apart (show IsS56 w0 _ g s0_0 x1001_2 x1002_2 from zI56 HI0.out) (mR_ HO_5.out) (by decide)) hk (fun _ h => h.2)) (fun _ h => h.1)); have n1_ := aM (KeepBut.trans (zK HK.out) hk (.inl rfl)); have n2_ := aM (hb); have n3_ := aM (hi); clear HO_5 HK HB HI0; have HO_5 := n0_; have HK := n1_; have HB := n2_; have HI0 := n3_; clear n0_ n1_ n2_ n3_; (try clear hb); (try clear hb2); (try clear hk); (try clear hi)) | ((with_reducible refine gate_builtin (b := .append) (xs := #[.tmp 64, .tmp 68]) rfl ?_); at_builtin; refine Kd.R_append k35 w.heap.size rfl (.tmp 64) (.tmp 68) 26 35 (.agg #[(.int .i64 0), (.int .i64 0)]) 16 rfl Try.underlying26 info35 rfl (by decide) (by omega) u5 x5_2 (⟨x7_2, x6_1⟩ : S35) [.int .i64 x7_2, .int .i64 x6_1] (fun _ => True) (fun _ => False) rfl rfl ?aP (fun _ hk => hk.elim) ?aF ?aO (Below.refl _ _) ?aS ?aL ?_; (case aP => exact k35_mkM _ _ _ (⟨x7_2, x6_1⟩ : S35)); (case aF => exact (fun _ _ => trivial)); (case aO => exact (mR_ HO_5.out)); (case aS => exact (keep_size (w := w) (g := g) (row := none) (zK HK.out))); (case aL => have := LMc23.out; omega); intro v354 w25 ho hb hg hat; rw [← Ny353.out] at ho; have n0_ := aM (IsS56.grown (zI56 HI0.out) hg (IsS56.own_ne HI0.out HO_5.out (by decide))); have n1_ := aM (below_weaken (zs (IsS56.ge HI0.out)) HL.out hb); have n2_ := aM (KeepBut.trans (zK HK.out) (KeepBut.of_grown hg g) (Kd.R_base2 HO_5.out)); have n3_ := aM (ho); clear HI0 HB HK HO_5; have HI0 := n0_; have HB := n1_; have HK := n2_; have HO355 := n3_; clear n0_ n1_ n2_ n3_; clear ho hb hg hat))
        go_roundg kj15
        case measure => have := HK1.out; have := HK2.out; have := HJ15.out; omega
        case rel => exact ⟨(y353), (wrap64 (x7_2 + 1)), (t351), (t352), zr, H', ⟨by have := HK1.out; have := HK2.out; have := HJ15.out; omega⟩, ⟨mR_ HO355.out⟩, ⟨zI56 HI0.out⟩, ⟨zK HK.out⟩, ⟨zs (IsS56.ge HI0.out)⟩⟩
       replace c20 := Bool.eq_false_iff.mpr c20
       subst c20
       have H1 : ((spec_l01Next.f s0_0 x1001_2 x1002_2 3).bind fun bt356 => (if bt356.1 = 0 then (if x5_2.length < 8796093022208 then (spec_l06Draw.l1 kj15 (wrap64 (3 + t341)) (wrap64 (3 + t344)) (x5_2 ++ [(⟨x7_2, x6_1⟩ : S35)]) x6_1 (wrap64 (x7_2 + 1)) s0_0 bt356.2.1 bt356.2.2) else (none)) else (spec_l06Draw.l1 kj15 (wrap64 (3 + t341)) (wrap64 (3 + t344)) x5_2 x6_1 (wrap64 (x7_2 + 1)) s0_0 bt356.2.1 bt356.2.2))) = some (r1, r2, r3) := by rw [if_neg (show ¬ (false = true) by decide)] at H; exact H
       clear H
       have H := H1
       clear H1
       replace H := Option.bind_eq_some_iff.mp H
       obtain ⟨⟨t356, t357, t358⟩, A270, H⟩ := H
       replace H : (if t356 = 0 then (if x5_2.length < 8796093022208 then (spec_l06Draw.l1 kj15 (wrap64 (3 + t341)) (wrap64 (3 + t344)) (x5_2 ++ [(⟨x7_2, x6_1⟩ : S35)]) x6_1 (wrap64 (x7_2 + 1)) s0_0 t357 t358) else (none)) else (spec_l06Draw.l1 kj15 (wrap64 (3 + t341)) (wrap64 (3 + t344)) x5_2 x6_1 (wrap64 (x7_2 + 1)) s0_0 t357 t358)) = some (r1, r2, r3) := H
       have A27 := aM A270
       clear A270
       by_cases c28 : t356 = 0
       rotate_left
       ·rw [if_neg c28] at H
        have c28b0 : (t356 == 0) = false := beq_eq_false_iff_ne.mpr c28
        have c28b1 : (t356 != 0) = true := bne_iff_ne.mpr c28
        have H' := aM H
        clear H
        go_wp2_with (first | (go_at_call 33; (with_reducible refine (spec_l01Next.calls g s0_0 x1001_2 x1002_2 3 t356 t357 t358 w0 _ ?side1 ?side2 A27.out).mono ?_); (case side1 => exact zI56 HI0.out); (case side2 => exact zs (IsS56.ge HI0.out)); rintro e w32 ⟨rfl, hi, hb, hk⟩; have n0_ := aM (Kd.R_mono (Kd.R_keep (IsS56.apart (show IsS56 w0 _ g s0_0 x1001_2 x1002_2 from zI56 HI0.out) (mR_ HO_5.out) (by decide)) hk (fun _ h => h.2)) (fun _ h => h.1)); have n1_ := aM (KeepBut.trans (zK HK.out) hk (.inl rfl)); have n2_ := aM (hb); have n3_ := aM (hi); clear HO_5 HK HB HI0; have HO_5 := n0_; have HK := n1_; have HB := n2_; have HI0 := n3_; clear n0_ n1_ n2_ n3_; (try clear hb); (try clear hb2); (try clear hk); (try clear hi)))
        go_roundg kj15
        case measure => have := HK1.out; have := HK2.out; have := HJ15.out; omega
        case rel => exact ⟨(x5_2), (wrap64 (x7_2 + 1)), (t357), (t358), zr, H', ⟨by have := HK1.out; have := HK2.out; have := HJ15.out; omega⟩, ⟨mR_ HO_5.out⟩, ⟨zI56 HI0.out⟩, ⟨zK HK.out⟩, ⟨zs (IsS56.ge HI0.out)⟩⟩
       rw [if_pos c28] at H
       have c28b0 : (t356 == 0) = true := beq_iff_eq.mpr c28
       have c28b1 : (t356 != 0) = false := bne_eq_false_iff_eq.mpr c28
       clear c28
       by_cases c29 : x5_2.length < 8796093022208
       rotate_left
       ·rw [if_neg c29] at H
        exact absurd H (by simp)
       rw [if_pos c29] at H
       have LMc29 := aM c29
       clear c29
       obtain ⟨y359, hy359⟩ : ∃ y_ : List (S35), y_ = (x5_2 ++ [(⟨x7_2, x6_1⟩ : S35)]) := ⟨_, rfl⟩
       replace H : (spec_l06Draw.l1 kj15 (wrap64 (3 + t341)) (wrap64 (3 + t344)) y359 x6_1 (wrap64 (x7_2 + 1)) s0_0 t357 t358) = some (r1, r2, r3) := zy H hy359
       have Ny359 := aM hy359
       clear hy359
       have H' := aM H
       clear H
       go_wp2_with (first | (go_at_call 33; (with_reducible refine (spec_l01Next.calls g s0_0 x1001_2 x1002_2 3 t356 t357 t358 w0 _ ?side1 ?side2 A27.out).mono ?_); (case side1 => exact zI56 HI0.out); (case side2 => exact zs (IsS56.ge HI0.out)); rintro e w30 ⟨rfl, hi, hb, hk⟩; have n0_ := aM (Kd.R_mono (Kd.R_keep (IsS56.apart (show IsS56 w0 _ g s0_0 x1001_2 x1002_2 from zI56 HI0.out) (mR_ HO_5.out) (by decide)) hk (fun _ h => h.2)) (fun _ h => h.1)); have n1_ := aM (KeepBut.trans (zK HK.out) hk (.inl rfl)); have n2_ := aM (hb); have n3_ := aM (hi); clear HO_5 HK HB HI0; have HO_5 := n0_; have HK := n1_; have HB := n2_; have HI0 := n3_; clear n0_ n1_ n2_ n3_; (try clear hb); (try clear hb2); (try clear hk); (try clear hi)) | ((with_reducible refine gate_builtin (b := .append) (xs := #[.tmp 64, .tmp 68]) rfl ?_); at_builtin; refine Kd.R_append k35 w.heap.size rfl (.tmp 64) (.tmp 68) 26 35 (.agg #[(.int .i64 0), (.int .i64 0)]) 16 rfl Try.underlying26 info35 rfl (by decide) (by omega) u5 x5_2 (⟨x7_2, x6_1⟩ : S35) [.int .i64 x7_2, .int .i64 x6_1] (fun _ => True) (fun _ => False) rfl rfl ?aP (fun _ hk => hk.elim) ?aF ?aO (Below.refl _ _) ?aS ?aL ?_; (case aP => exact k35_mkM _ _ _ (⟨x7_2, x6_1⟩ : S35)); (case aF => exact (fun _ _ => trivial)); (case aO => exact (mR_ HO_5.out)); (case aS => exact (keep_size (w := w) (g := g) (row := none) (zK HK.out))); (case aL => have := LMc29.out; omega); intro v360 w31 ho hb hg hat; rw [← Ny359.out] at ho; have n0_ := aM (IsS56.grown (zI56 HI0.out) hg (IsS56.own_ne HI0.out HO_5.out (by decide))); have n1_ := aM (below_weaken (zs (IsS56.ge HI0.out)) HL.out hb); have n2_ := aM (KeepBut.trans (zK HK.out) (KeepBut.of_grown hg g) (Kd.R_base2 HO_5.out)); have n3_ := aM (ho); clear HI0 HB HK HO_5; have HI0 := n0_; have HB := n1_; have HK := n2_; have HO361 := n3_; clear n0_ n1_ n2_ n3_; clear ho hb hg hat))
       go_roundg kj15
       case measure => have := HK1.out; have := HK2.out; have := HJ15.out; omega
       case rel => exact ⟨(y359), (wrap64 (x7_2 + 1)), (t357), (t358), zr, H', ⟨by have := HK1.out; have := HK2.out; have := HJ15.out; omega⟩, ⟨mR_ HO361.out⟩, ⟨zI56 HI0.out⟩, ⟨zK HK.out⟩, ⟨zs (IsS56.ge HI0.out)⟩⟩
def spec_l01From.l0 : Nat → List Int → Int → List Int → Int → Int → Option (List Int × Int × Int)
 | 0, _, _, _, _, _ => none
 | k + 1, x0, x4, x363000, x363001, x363002 => if x4 < (x0.length : Int) then (if x4 < 64 then (if 0 ≤ x4 then (spec_l01From.l0 k x0 (wrap64 (x4 + 1)) x363000 x363001 (Int.tmod (wrap64 ((wrap64 (x363002 * 47)) + (wrap64 (rd x0 x4)))) 2147483647)) else (none)) else (some (x363000, x363001, x363002))) else (some (x363000, x363001, x363002))
def spec_l01From.f (k : Nat) (l0 : List Int) : Option (List Int × Int × Int) := spec_l01From.l0 k l0 0 l0 0 61003
def spec_l01From.T5 : Bool × List (List Nat × List Nat) := (true, [([], []), ([], []), ([1], [1]), ([2], [2]), ([3], [3]), ([4], [4]), ([], []), ([], []), ([6, 7], [6, 7]), ([8], [8]), ([9], [9]), ([5, 10], [5, 10]), ([11], [11]), ([0, 0, 1, 2, 3, 4, 5, 6, 7, 8, 9, 10, 11, 12], [0]), ([13, 0, 1, 2, 3, 4, 5, 6, 7, 8, 9, 10, 11, 12], [13]), ([14, 12, 0, 1, 2, 3, 4, 5, 6, 7, 8, 9, 10, 11, 12], [12, 14])])
def spec_l01From.B5 : List Nat := [0, 0, 2, 6, 14, 30, 0, 0, 192, 448, 960, 2046, 4094, 8191, 16383, 32767]
theorem spec_l01From.tab5 : rtab .any (opsOf Try.f23 5) = spec_l01From.T5 := by kernel_rfl
theorem spec_l01From.bits5 : waitsOk spec_l01From.T5.2 spec_l01From.B5 = true := by kernel_rfl
theorem spec_l01From.calls (k : Nat) (A0 : Option Addr) (c0 : Nat) (l0 : List Int) (r1 : List Int) (r2 : Int) (r3 : Int) (w0 w : World) (hB : Below w0.heap.size w0 w) (hr0 : Kd.C (Kd.int .u8) w0 A0 l0.length l0) (hc0 : l0.length ≤ c0) (h : spec_l01From.f k l0 = some (r1, r2, r3)) :
  Calls Try.prog 23 #[.slice A0 l0.length c0] w fun e w' => ∃ g_ : Nat, e = .returned (.pointer (some ⟨g_, 0, none⟩)) ∧ IsS56 w0 w' g_ r1 r2 r3 ∧ Below w0.heap.size w0 w' ∧ Below w.heap.size w w' := by
 have hu56 := Try.underlying56
 have HR0 := aM hr0
 have HC0 := aM hc0
 clear hr0 hc0
 have HBW := aM (Below.refl w.heap.size w)
 have HW0 := aM hB.size
 have HB := aM hB
 clear hB
 have H : (spec_l01From.l0 k l0 0 l0 0 61003) = some (r1, r2, r3) := h
 clear h
 have H' := aM H
 clear H
 go_enter Try.func23, Try.ntmps23
 go_wp2_with (first | ((with_reducible refine gate_dst (N := 7) rfl ?_); refine zx 7 #[.slice A0 l0.length c0, .int .i64 0, .int .i64 61003] 56 ?_; intro gb362 hg w2 hbox hb; have n0_ := aM (below_step HBW.out hb); have n1_ := aM (below_step zb hb); have n2_ := aM (hbox); have n3_ := aM ((by rw [hg]; exact (below_size (by repeat (first | (with_reducible first | exact HBW.out | apply below_alloc | apply pw_below_drewN | apply below_drew1) | exact HBW.out))) : w.heap.size ≤ gb362)); have n4_ := aM ((Nat.le_trans HW0.out (by rw [hg]; exact (below_size (by repeat (first | (with_reducible first | exact HBW.out | apply below_alloc | apply pw_below_drewN | apply below_drew1) | exact HBW.out))) : w.heap.size ≤ gb362) : w0.heap.size ≤ gb362)); clear HBW HB; have HBW := n0_; have HB := n1_; have BK362 := n2_; have GW362 := n3_; have GE362 := n4_; clear n0_ n1_ n2_ n3_ n4_; clear hb hbox hg))
 go_loopg [4] k (fun kq v4 w' => ∃ (x4_1 : Int) (x363002_1 : Int), v4 = .int .i64 x4_1 ∧ Aside0 (spec_l01From.l0 kq l0 x4_1 l0 0 x363002_1 = some (r1, r2, r3)) ∧ Aside0 (kq ≤ k) ∧ Aside0 (w'.heap[gb362]? = some (.cells #[(.slice A0 l0.length c0), .int .i64 0, .int .i64 x363002_1] 56 (0, 0))) ∧ Aside0 (Below w0.heap.size w0 w') ∧ Aside0 (Below w.heap.size w w'))
 case atStart => exact ⟨(0), (61003), zr, H', ⟨Nat.le_refl _⟩, ⟨mB_ BK362.out⟩, ⟨zs GE362.out⟩, ⟨by repeat (first | (with_reducible first | exact HBW.out | apply below_alloc | apply pw_below_drewN | apply below_drew1 | refine below_set ?_ GW362.out) | exact HBW.out)⟩⟩
 case round =>
  clear H'
  try clear c2
  try clear p2
  obtain ⟨x4_1, x363002_1, rfl, HA, HK1, BK362, HB, HBW⟩ := hrel
  cases gk with
  | zero => exact absurd HA.out (by simp [spec_l01From.l0])
  | succ k1 =>
   have H := HA.out
   clear HA
   simp only [spec_l01From.l0] at H
   by_cases c3 : x4_1 < (l0.length : Int)
   rotate_left
   ·rw [if_neg c3] at H
    have c3b0 : decide (x4_1 < (l0.length : Int)) = false := decide_eq_false c3
    clear c3
    simp only [Option.some.injEq, Prod.mk.injEq] at H
    obtain ⟨rfl, rfl, rfl⟩ := H
    go_wp2
    go_ret
    exact ⟨_, rfl, (show IsS56 w0 _ gb362 l0 0 x363002_1 from ⟨_, _, mB_ BK362.out, GE362.out, HR0.out⟩), zs GE362.out, by repeat (first | (with_reducible first | exact HBW.out | apply below_alloc | apply pw_below_drewN | apply below_drew1 | refine below_set ?_ GW362.out) | exact HBW.out)⟩
   rw [if_pos c3] at H
   have c3b0 : decide (x4_1 < (l0.length : Int)) = true := decide_eq_true c3
   clear c3
   by_cases c4 : x4_1 < 64
   rotate_left
   ·rw [if_neg c4] at H
    have c4b0 : decide (x4_1 < 64) = false := decide_eq_false c4
    clear c4
    simp only [Option.some.injEq, Prod.mk.injEq] at H
    obtain ⟨rfl, rfl, rfl⟩ := H
    go_wp2
    go_ret
    exact ⟨_, rfl, (show IsS56 w0 _ gb362 l0 0 x363002_1 from ⟨_, _, mB_ BK362.out, GE362.out, HR0.out⟩), zs GE362.out, by repeat (first | (with_reducible first | exact HBW.out | apply below_alloc | apply pw_below_drewN | apply below_drew1 | refine below_set ?_ GW362.out) | exact HBW.out)⟩
   rw [if_pos c4] at H
   have c4b0 : decide (x4_1 < 64) = true := decide_eq_true c4
   clear c4
   by_cases c5 : 0 ≤ x4_1
   rotate_left
   ·rw [if_neg c5] at H
    exact absurd H (by simp)
   rw [if_pos c5] at H
   have c5b0 : decide (0 ≤ x4_1) = true := decide_eq_true c5
   clear c5
   have H' := aM H
   clear H
   try go_wp2
   have n0_ := aM (blk_drew BK362.out)
   have n1_ := aM (below_drew1 HB.out)
   have n9_ := aM (below_drew1 HBW.out)
   clear BK362
   clear HB
   have BK362 := n0_
   have HB := n1_
   clear HBW
   have HBW := n9_
   clear n9_
   clear n0_ n1_
   have p363 : 0 ≤ (x4_1 : Int) := of_decide_eq_true za
   have q363 : x4_1 < (l0.length : Int) := of_decide_eq_true za
   obtain ⟨ad363, e363, hx363_0⟩ := Kd.at_int HR0.out x4_1 p363 q363
   have hw363_0 := hx363_0
   cases e363
   replace hx363_0 := pw_cell_below HB.out hx363_0
   replace p363 := eq_true p363
   replace q363 := eq_true q363
   refine start_ (n := 16) (S := fun w' => w'.cell? ⟨gb362, 0, none⟩ = some (.slice (some ad363) l0.length c0) ∧ w'.cell? ⟨gb362, 1, none⟩ = some (.int .i64 0) ∧ w'.cell? ⟨gb362, 2, none⟩ = some (.int .i64 x363002_1) ∧ w'.cell? (ad363.add (x4_1).toNat) = some (.int .u8 (rd l0 x4_1))) (ds := [15]) zA105 (by kernel_rfl) rfl rfl ⟨(blk_cell BK362.out 0).trans rfl, (blk_cell BK362.out 1).trans rfl, (blk_cell BK362.out 2).trans rfl, (zk HB.out hw363_0)⟩ (fun hHeld => ?_); refine with_tabW spec_l01From.tab5 spec_l01From.bits5 (fun HT_ HW_ => ?_)
   generalize wr.drew = w6 at BK362 HB HBW hx363_0 hHeld ⊢
   refine zp 0 (some 18) ?_ zA106 rfl rfl (Or.inl ⟨by rfl, ?_⟩) ?_ ?_ ?_
   rotate_left
   ·intro w'
    go_simp
    with_reducible rfl
   rotate_left
   ·simp only [Act.put, xA, xB, xC, i64_w, i32_w]
    rfl
   refine zp 1 (some 19) ?_ zA107 rfl rfl (Or.inl ⟨by rfl, ?_⟩) ?_ ?_ ?_
   rotate_left
   ·intro w'
    go_simp
    with_reducible rfl
   rotate_left
   ·simp only [Act.put, xA, xB, xC, i64_w, i32_w]
    rfl
   refine zp 2 (some 20) ?_ zA108 rfl rfl (Or.inl ⟨by rfl, ?_⟩) ?_ ?_ ?_
   rotate_left
   ·intro w'
    go_simp
    with_reducible rfl
   rotate_left
   ·simp only [Act.put, xA, xB, xC, i64_w, i32_w]
    rfl
   refine zp 3 (some 21) ?_ zA109 rfl rfl (Or.inl ⟨by rfl, ?_⟩) ?_ ?_ ?_
   rotate_left
   ·intro w'
    go_simp
    with_reducible rfl
   rotate_left
   ·simp only [Act.put, xA, xB, xC, i64_w, i32_w]
    rfl
   refine zp 6 (some 24) ?_ zA110 rfl rfl (Or.inl ⟨by rfl, ?_⟩) ?_ ?_ ?_
   rotate_left
   ·intro w'
    go_simp
    with_reducible rfl
   rotate_left
   ·simp only [Act.put, xA, xB, xC, i64_w, i32_w]
    rfl
   refine zp 7 (some 25) ?_ zA111 rfl rfl (Or.inl ⟨by rfl, ?_⟩) ?_ ?_ ?_
   rotate_left
   ·intro w'
    go_simp
    with_reducible rfl
   rotate_left
   ·simp only [Act.put, xA, xB, xC, i64_w, i32_w]
    rfl
   refine zp 8 (some 26) ?_ zA112 rfl rfl (Or.inl ⟨by rfl, ?_⟩) ?_ ?_ ?_
   rotate_left
   ·intro w'
    go_simp
    with_reducible rfl
   rotate_left
   ·simp only [Act.put, xA, xB, xC, i64_w, i32_w]
    rfl
   refine zu 4 (some 22) ?_ zA113 rfl rfl (Or.inl ⟨by rfl, ?_⟩) hHeld ?_ ?_ ?_
   rotate_left
   ·rintro w' ⟨s0, s1, s2, s3⟩
    go_simp
    with_reducible rfl
   rotate_left
   ·simp only [Act.put, xA, xB, xC, i64_w, i32_w]
    rfl
   refine zp 5 (some 23) ?_ zA114 rfl rfl (Or.inl ⟨by rfl, ?_⟩) ?_ ?_ ?_
   rotate_left
   ·intro w'
    go_simp
    with_reducible rfl
   rotate_left
   ·simp only [Act.put, xA, xB, xC, i64_w, i32_w]
    rfl
   refine zu 9 (some 27) ?_ zA115 rfl rfl (Or.inl ⟨by rfl, ?_⟩) hHeld ?_ ?_ ?_
   rotate_left
   ·rintro w' ⟨s0, s1, s2, s3⟩
    go_simp
    with_reducible rfl
   rotate_left
   ·simp only [Act.put, xA, xB, xC, i64_w, i32_w]
    rfl
   refine zp 10 (some 28) ?_ zA116 rfl rfl (Or.inl ⟨by rfl, ?_⟩) ?_ ?_ ?_
   rotate_left
   ·intro w'
    go_simp
    with_reducible rfl
   rotate_left
   ·simp only [Act.put, xA, xB, xC, i64_w, i32_w]
    rfl
   refine zp 11 (some 29) ?_ zA117 rfl rfl (Or.inl ⟨by rfl, ?_⟩) ?_ ?_ ?_
   rotate_left
   ·intro w'
    go_simp
    with_reducible rfl
   rotate_left
   ·simp only [Act.put, xA, xB, xC, i64_w, i32_w]
    rfl
   refine zp 12 (some 30) ?_ zA118 rfl rfl (Or.inl ⟨by rfl, ?_⟩) ?_ ?_ ?_
   rotate_left
   ·intro w'
    go_simp
    with_reducible rfl
   rotate_left
   ·simp only [Act.put, xA, xB, xC, i64_w, i32_w]
    rfl
   refine zp 13 (some 31) ?_ zA119 rfl rfl (Or.inl ⟨by rfl, ?_⟩) ?_ ?_ ?_
   rotate_left
   ·intro w'
    go_simp
    with_reducible rfl
   rotate_left
   ·simp only [Act.put, xA, xB, xC, i64_w, i32_w]
    rfl
   refine zp 14 (some 32) ?_ zA120 rfl rfl (Or.inl ⟨by rfl, ?_⟩) ?_ ?_ ?_
   rotate_left
   ·intro w'
    go_simp
    with_reducible rfl
   rotate_left
   ·simp only [Act.put, xA, xB, xC, i64_w, i32_w]
    rfl
   refine last_ (i := 15) (N := none) zA121 rfl rfl (one_of HT_.out (by kernel_rfl)) (by decide) (fun K hK => ?_)
   have hs7 : w6.cell? ⟨gb362, 2, none⟩ = some (.int .i64 x363002_1) := (blk_cell BK362.out 2).trans rfl
   have hfs7 := blk_frozen BK362.out 2
   refine skip_ (w1 := ?_) (by rfl) rfl ?_ ?_
   rotate_left
   ·go_simp
    rfl
   refine hK.out _ _ ?_
   clear hK K
   refine done_ (done_of HT_.out (by kernel_rfl)) ?_
   try go_wp2
   go_roundg k1
   case measure => have := HK1.out; omega
   case rel => exact ⟨(wrap64 (x4_1 + 1)), (Int.tmod (wrap64 ((wrap64 (x363002_1 * 47)) + (wrap64 (rd l0 x4_1)))) 2147483647), zr, H', ⟨by have := HK1.out; omega⟩, ⟨by (with_reducible repeat (first | refine blk_drewN ?_ _ | refine blk_drew ?_ | refine blk_alloc ?_ _)); refine blk_put (cs := #[.slice (some ad363) l0.length c0, .int .i64 0, .int .i64 x363002_1]) ?_ 2 _ rfl; (with_reducible repeat (first | refine blk_drewN ?_ _ | refine blk_drew ?_ | refine blk_alloc ?_ _)); exact BK362.out⟩, ⟨zs GE362.out⟩, ⟨by repeat (first | (with_reducible first | exact HBW.out | apply below_alloc | apply pw_below_drewN | apply below_drew1 | refine below_set ?_ GW362.out) | exact HBW.out)⟩⟩
def spec_DrawEdgeCount.f (k : Nat) (l0 : List Int) : Option ((List (S35))) := (spec_l01From.f k l0).bind fun bt364 => ((spec_l06Draw.f k bt364.1 bt364.2.1 bt364.2.2).bind fun bt368 => (some bt368.1))
theorem spec_DrawEdgeCount.calls (k : Nat) (A0 : Option Addr) (c0 : Nat) (l0 : List Int) (r : List (S35)) (w : World) (hr0 : Kd.C (Kd.int .u8) w A0 l0.length l0) (hc0 : l0.length ≤ c0) (h : spec_DrawEdgeCount.f k l0 = some r) :
  Calls Try.prog 11 #[.slice A0 l0.length c0] w fun e w' => ∃ v0_ : Value, e = .returned (v0_) ∧ Kd.R k35 35 w' w.heap.size (fun _ => True) v0_ r ∧ Below w.heap.size w w' := by
 have HR0 := aM hr0
 have HC0 := aM hc0
 clear hr0 hc0
 have HB := aM (Below.refl w.heap.size w)
 have H : ((spec_l01From.f k l0).bind fun bt364 => ((spec_l06Draw.f k bt364.1 bt364.2.1 bt364.2.2).bind fun bt368 => (some bt368.1))) = some r := h
 clear h
 replace H := Option.bind_eq_some_iff.mp H
 obtain ⟨⟨t364, t365, t366⟩, A20, H⟩ := H
 replace H : ((spec_l06Draw.f k t364 t365 t366).bind fun bt368 => (some bt368.1)) = some r := H
 have A2 := aM A20
 clear A20
 replace H := Option.bind_eq_some_iff.mp H
 obtain ⟨⟨t368, t371, t372⟩, A30, H⟩ := H
 replace H : (some t368) = some r := H
 have A3 := aM A30
 clear A30
 obtain rfl := Option.some.inj H
 go_enter Try.func11, Try.ntmps11
 go_wp2_with (first | ((with_reducible refine gate_callee (f := 23) rfl ?_); refine goesL_ (some 4) rfl rfl Try.func23 (by kernel_rfl) rfl #[.slice A0 l0.length c0] rfl zm ?_; (with_reducible refine (spec_l01From.calls k _ _ l0 t364 t365 t366 w _ ?side1 ?side2 ?side3 A2.out).mono ?_); (case side1 => repeat (first | (with_reducible first | exact HB.out | apply below_alloc | apply pw_below_drewN | apply below_drew1) | exact HB.out)); (case side2 => exact HR0.out); (case side3 => exact HC0.out); rintro e w4 ⟨g367, rfl, hi, hb, hb2⟩; refine ⟨_, rfl, ?_⟩; have n0_ := aM (hb); have n1_ := aM (hi); clear HB; have HB := n0_; have HI367 := n1_; clear n0_ n1_; (try clear hb); (try clear hb2); (try clear hk); (try clear hi)) | ((with_reducible refine gate_callee (f := 22) rfl ?_); refine goesL_ (some 5) rfl rfl Try.func22 (by kernel_rfl) rfl #[.pointer (some ⟨g367, 0, none⟩)] rfl zm ?_; (with_reducible refine (spec_l06Draw.calls k g367 t364 t365 t366 t368 t371 t372 w _ ?side1 ?side2 A3.out).mono ?_); (case side1 => exact zI56 HI367.out); (case side2 => exact zs (IsS56.ge HI367.out)); rintro e w5 ⟨v369, rfl, ho0, hi, hb, hk⟩; refine ⟨_, rfl, ?_⟩; have n0_ := aM (Kd.R_lower ho0 (below_size (zs (IsS56.ge HI367.out)))); have n1_ := aM (hb); have n2_ := aM (hi); clear HB HI367; have HO370 := n0_; have HB := n1_; have HI367 := n2_; clear n0_ n1_ n2_; (try clear hb); (try clear hb2); (try clear hk); (try clear hi); (try clear ho0)))
 go_ret
 exact ⟨_, zw, mR_ HO370.out, zs (IsS56.ge HI367.out)⟩
def impl_around.f (a0_0 : Int) (a0_1 : Int) : Option ((List (S35))) := some (([(⟨a0_0, wrap64 (a0_1 - 1)⟩ : S35), (⟨wrap64 (a0_0 - 1), a0_1⟩ : S35), (⟨wrap64 (a0_0 + 1), a0_1⟩ : S35), (⟨a0_0, wrap64 (a0_1 + 1)⟩ : S35)] : List (S35)))
theorem impl_around.calls (a0_0 : Int) (a0_1 : Int) (r : List (S35)) (w : World) (h : impl_around.f a0_0 a0_1 = some r) :
  Calls Try.prog 35 #[.agg #[.int .i64 a0_0, .int .i64 a0_1]] w fun e w' => ∃ v0_ : Value, e = .returned (v0_) ∧ Kd.R k35 35 w' w.heap.size (fun _ => True) v0_ r ∧ Below w.heap.size w w' := by
 have hu35 := Try.underlying35
 have HB := aM (Below.refl w.heap.size w)
 have H : (some (([(⟨a0_0, wrap64 (a0_1 - 1)⟩ : S35), (⟨wrap64 (a0_0 - 1), a0_1⟩ : S35), (⟨wrap64 (a0_0 + 1), a0_1⟩ : S35), (⟨a0_0, wrap64 (a0_1 + 1)⟩ : S35)] : List (S35)))) = some r := h
 clear h
 obtain ⟨y374, hy374⟩ : ∃ y_ : List (S35), y_ = (([(⟨a0_0, wrap64 (a0_1 - 1)⟩ : S35), (⟨wrap64 (a0_0 - 1), a0_1⟩ : S35), (⟨wrap64 (a0_0 + 1), a0_1⟩ : S35), (⟨a0_0, wrap64 (a0_1 + 1)⟩ : S35)] : List (S35))) := ⟨_, rfl⟩
 replace H : (some y374) = some r := zy H hy374
 have Ny374 := aM hy374
 clear hy374
 obtain rfl := Option.some.inj H
 go_enter Try.func35, Try.ntmps35
 go_wp2_with (first | ((with_reducible refine gate_dst (N := 1) rfl ?_); refine zx 1 #[.int .i64 a0_0, .int .i64 a0_1] 35 ?_; intro gb373 hg w2 hbox hb; have n0_ := aM (below_step zb hb); have n1_ := aM (hbox); have n2_ := aM ((ze : w.heap.size ≤ gb373)); have n3_ := aM ((ze : w.heap.size ≤ gb373)); clear HB; have HB := n0_; have BK373 := n1_; have GW373 := n2_; have GE373 := n3_; clear n0_ n1_ n2_ n3_ hb hbox hg; have hcz3_0 : w2.cell? ⟨gb373, 0, none⟩ = some (.int .i64 a0_0) := (blk_cell BK373.out 0).trans rfl; have hcz3_1 : w2.cell? ⟨gb373, 1, none⟩ = some (.int .i64 a0_1) := (blk_cell BK373.out 1).trans rfl; have hfz3_0 := blk_frozen BK373.out 0; have hfz3_1 := blk_frozen BK373.out 1) | ((with_reducible refine gate_dst (N := 27) rfl ?_); refine Kd.R_lit k35 _ 35 ?hg (N := 27) ?hd (xs := ([(⟨a0_0, wrap64 (a0_1 - 1)⟩ : S35), (⟨wrap64 (a0_0 - 1), a0_1⟩ : S35), (⟨wrap64 (a0_0 + 1), a0_1⟩ : S35), (⟨a0_0, wrap64 (a0_1 + 1)⟩ : S35)] : List (S35))) (inner := [.int .i64 a0_0, .int .i64 (wrap64 (a0_1 - 1)), .int .i64 (wrap64 (a0_0 - 1)), .int .i64 a0_1, .int .i64 (wrap64 (a0_0 + 1)), .int .i64 a0_1, .int .i64 a0_0, .int .i64 (wrap64 (a0_1 + 1))]) (ok := fun _ => True) (okp := fun _ => True) ?hr ?hp (fun _ hk => hk) trivial (Below.refl _ _) (Nat.le_refl _) (by simp) ?_; (case hd => rfl); (case hg => rfl); (case hr => first | (go_simp; done) | (go_simp; rfl)); (case hp => exact (Reps.c2 (show Kd.M k35 _ _ _ (⟨a0_0, wrap64 (a0_1 - 1)⟩ : S35) [.int .i64 a0_0, .int .i64 (wrap64 (a0_1 - 1))] from (k35_mkM _ _ _ (⟨a0_0, wrap64 (a0_1 - 1)⟩ : S35) )) (Reps.c2 (show Kd.M k35 _ _ _ (⟨wrap64 (a0_0 - 1), a0_1⟩ : S35) [.int .i64 (wrap64 (a0_0 - 1)), .int .i64 a0_1] from (k35_mkM _ _ _ (⟨wrap64 (a0_0 - 1), a0_1⟩ : S35) )) (Reps.c2 (show Kd.M k35 _ _ _ (⟨wrap64 (a0_0 + 1), a0_1⟩ : S35) [.int .i64 (wrap64 (a0_0 + 1)), .int .i64 a0_1] from (k35_mkM _ _ _ (⟨wrap64 (a0_0 + 1), a0_1⟩ : S35) )) (Reps.c2 (show Kd.M k35 _ _ _ (⟨a0_0, wrap64 (a0_1 + 1)⟩ : S35) [.int .i64 a0_0, .int .i64 (wrap64 (a0_1 + 1))] from (k35_mkM _ _ _ (⟨a0_0, wrap64 (a0_1 + 1)⟩ : S35) )) (Reps.none _ _)))))); intro v375 w4 ho5 hb hg_ hnew_; clear hg_ hnew_; (first | rw [← Ny374.out] at ho5 | (simp only [Int.reduceToNat] at ho5; rw [← Ny374.out] at ho5)); have n0_ := aM (Kd.R_lower (Kd.R_newB ho5 (g := gb373) (o := .cells #[.int .i64 a0_0, .int .i64 a0_1] 35 (0, 0)) (mB_ BK373.out)) (below_size (zs GE373.out))); have n1_ := aM (blk_below (g := gb373) (o := .cells #[.int .i64 a0_0, .int .i64 a0_1] 35 (0, 0)) (mB_ BK373.out) hb); have n2_ := aM (below_step (zs GE373.out) hb); clear BK373 HB; have HO376 := n0_; have BK373 := n1_; have HB := n2_; clear n0_ n1_ n2_; clear hb ho5))
 go_ret
 exact ⟨_, zw, zd2 HO376.out, zs GE373.out⟩
end Go.Proofs.Ytpoiiaephcddoaa.F
end
