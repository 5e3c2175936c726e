/- The row of FnConvex, with what it needs: text 4 of 9. -/
import Derived.Test.YtfdfdifjkaaeoaaKFC2
set_option maxHeartbeats 8000000
set_option maxRecDepth 100000
section
namespace Go.Proofs.Ytfdfdifjkaaeoaa.F
open Go.RowKit Go.Proofs.YtfdfdifjkaaeoaaW.PrintWords Go.Proofs.YtfdfdifjkaaeoaaW.PrintLast Go.Proofs.YtfdfdifjkaaeoaaW.PrintMore
attribute [local go_sem] max2_int min2_int max_two min_two max_three min_three max_four min_four
set_option linter.unusedVariables false
set_option linter.unusedSimpArgs false
theorem spec_l02Draw.calls (k : Nat) (g : Nat) (s0_0 : List Int) (s0_1 : Int) (s0_2 : Int) (r1 : List (S59)) (r2 : Int) (r3 : Int) (w0 w : World) (hI : IsS98 w0 w g s0_0 s0_1 s0_2) (hB : Below w0.heap.size w0 w) (h : spec_l02Draw.f k s0_0 s0_1 s0_2 = some (r1, r2, r3)) :
  Calls Try.prog 103 #[.pointer (some ⟨g, 0, none⟩)] w fun e w' => ∃ v0_ : Value, e = .returned (v0_) ∧ Kd.R k59 59 w' w.heap.size (fun _ => True) v0_ r1 ∧ IsS98 w0 w' g s0_0 r2 r3 ∧ Below w0.heap.size w0 w' ∧ KeepBut w w' g none := by
 have hu59 := Try.underlying59
 have HI0 := aM hI
 have HK := aM (KeepBut.refl w g none)
 have HL := aM hB.size
 clear hI
 have HW0 := aM hB.size
 have HB := aM hB
 clear hB
 have H : ((spec_l02DrawPoly.f k s0_0 s0_1 s0_2 8).bind fun bt411 => ((spec_l01Next.f s0_0 bt411.2.1 bt411.2.2 9).bind fun bt416 => ((spec_l01Next.f s0_0 bt416.2.1 bt416.2.2 9).bind fun bt419 => ((spec_l02Move.f k bt411.1 (wrap64 (bt416.1 - 4)) (wrap64 (bt419.1 - 4))).bind fun t422 => ((spec_l01Next.f s0_0 bt419.2.1 bt419.2.2 (t422.length : Int)).bind fun bt425 => ((spec_l01Next.f s0_0 bt425.2.1 bt425.2.2 24).bind fun bt428 => (if bt428.1 = 0 then ((some (([(-100), 100, 101] : List Int) : List Int)).bind fun y431 => ((spec_l01Next.f s0_0 bt428.2.1 bt428.2.2 3).bind fun bt434 => (if 0 ≤ bt434.1 then (if bt434.1 < (y431.length : Int) then (if 0 ≤ bt425.1 then (if bt425.1 < (t422.length : Int) then ((spec_l02Sort.f k (t422.set (bt425.1 : Int).toNat (⟨rd y431 bt434.1, (rd_T59 t422 bt425.1).f1⟩ : S59))).bind fun t439 => (some (t439, bt434.2.1, bt434.2.2))) else (none)) else (none)) else (none)) else (none)))) else (if bt428.1 = 1 then (if 0 ≤ bt425.1 then (if bt425.1 < (t422.length : Int) then (if t422.length < 8796093022208 then (some ((t422 ++ [(⟨(rd_T59 t422 bt425.1).f0, (rd_T59 t422 bt425.1).f1⟩ : S59)]), bt428.2.1, bt428.2.2)) else (none)) else (none)) else (none)) else (if bt428.1 = 2 then (some (([] : List (S59)), bt428.2.1, bt428.2.2)) else (if bt428.1 = 3 then (spec_l02Draw.l0 k (([] : List (S59))) 0 s0_0 bt428.2.1 bt428.2.2) else (if bt428.1 = 4 then (if 0 < (t422.length : Int) then (if 0 ≤ (wrap64 ((t422.length : Int) - 1)) then (if (wrap64 ((t422.length : Int) - 1)) < (t422.length : Int) then (if t422.length < 8796093022208 then (some ((t422 ++ [(⟨wrap64 (((rd_T59 t422 0).f0) + 3), wrap64 (((rd_T59 t422 (wrap64 ((t422.length : Int) - 1))).f1) + 2)⟩ : S59)]), bt428.2.1, bt428.2.2)) else (none)) else (none)) else (none)) else (none)) else (if bt428.1 = 5 then (if 0 < (t422.length : Int) then (if 0 ≤ (wrap64 ((t422.length : Int) - 1)) then (if (wrap64 ((t422.length : Int) - 1)) < (t422.length : Int) then (if t422.length < 8796093022208 then (some ((t422 ++ [(⟨wrap64 (((rd_T59 t422 0).f0) + 3), wrap64 (((rd_T59 t422 (wrap64 ((t422.length : Int) - 1))).f1) + 2)⟩ : S59)]), bt428.2.1, bt428.2.2)) else (none)) else (none)) else (none)) else (none)) else (some (t422, bt428.2.1, bt428.2.2)))))))))))))) = some (r1, r2, r3) := h
 clear h
 replace H := Option.bind_eq_some_iff.mp H
 obtain ⟨⟨t411, t414, t415⟩, A20, H⟩ := H
 replace H : ((spec_l01Next.f s0_0 t414 t415 9).bind fun bt416 => ((spec_l01Next.f s0_0 bt416.2.1 bt416.2.2 9).bind fun bt419 => ((spec_l02Move.f k t411 (wrap64 (bt416.1 - 4)) (wrap64 (bt419.1 - 4))).bind fun t422 => ((spec_l01Next.f s0_0 bt419.2.1 bt419.2.2 (t422.length : Int)).bind fun bt425 => ((spec_l01Next.f s0_0 bt425.2.1 bt425.2.2 24).bind fun bt428 => (if bt428.1 = 0 then ((some (([(-100), 100, 101] : List Int) : List Int)).bind fun y431 => ((spec_l01Next.f s0_0 bt428.2.1 bt428.2.2 3).bind fun bt434 => (if 0 ≤ bt434.1 then (if bt434.1 < (y431.length : Int) then (if 0 ≤ bt425.1 then (if bt425.1 < (t422.length : Int) then ((spec_l02Sort.f k (t422.set (bt425.1 : Int).toNat (⟨rd y431 bt434.1, (rd_T59 t422 bt425.1).f1⟩ : S59))).bind fun t439 => (some (t439, bt434.2.1, bt434.2.2))) else (none)) else (none)) else (none)) else (none)))) else (if bt428.1 = 1 then (if 0 ≤ bt425.1 then (if bt425.1 < (t422.length : Int) then (if t422.length < 8796093022208 then (some ((t422 ++ [(⟨(rd_T59 t422 bt425.1).f0, (rd_T59 t422 bt425.1).f1⟩ : S59)]), bt428.2.1, bt428.2.2)) else (none)) else (none)) else (none)) else (if bt428.1 = 2 then (some (([] : List (S59)), bt428.2.1, bt428.2.2)) else (if bt428.1 = 3 then (spec_l02Draw.l0 k (([] : List (S59))) 0 s0_0 bt428.2.1 bt428.2.2) else (if bt428.1 = 4 then (if 0 < (t422.length : Int) then (if 0 ≤ (wrap64 ((t422.length : Int) - 1)) then (if (wrap64 ((t422.length : Int) - 1)) < (t422.length : Int) then (if t422.length < 8796093022208 then (some ((t422 ++ [(⟨wrap64 (((rd_T59 t422 0).f0) + 3), wrap64 (((rd_T59 t422 (wrap64 ((t422.length : Int) - 1))).f1) + 2)⟩ : S59)]), bt428.2.1, bt428.2.2)) else (none)) else (none)) else (none)) else (none)) else (if bt428.1 = 5 then (if 0 < (t422.length : Int) then (if 0 ≤ (wrap64 ((t422.length : Int) - 1)) then (if (wrap64 ((t422.length : Int) - 1)) < (t422.length : Int) then (if t422.length < 8796093022208 then (some ((t422 ++ [(⟨wrap64 (((rd_T59 t422 0).f0) + 3), wrap64 (((rd_T59 t422 (wrap64 ((t422.length : Int) - 1))).f1) + 2)⟩ : S59)]), bt428.2.1, bt428.2.2)) else (none)) else (none)) else (none)) else (none)) else (some (t422, bt428.2.1, bt428.2.2))))))))))))) = some (r1, r2, r3) := H
 have A2 := aM A20
 clear A20
 replace H := Option.bind_eq_some_iff.mp H
 obtain ⟨⟨t416, t417, t418⟩, A30, H⟩ := H
 replace H : ((spec_l01Next.f s0_0 t417 t418 9).bind fun bt419 => ((spec_l02Move.f k t411 (wrap64 (t416 - 4)) (wrap64 (bt419.1 - 4))).bind fun t422 => ((spec_l01Next.f s0_0 bt419.2.1 bt419.2.2 (t422.length : Int)).bind fun bt425 => ((spec_l01Next.f s0_0 bt425.2.1 bt425.2.2 24).bind fun bt428 => (if bt428.1 = 0 then ((some (([(-100), 100, 101] : List Int) : List Int)).bind fun y431 => ((spec_l01Next.f s0_0 bt428.2.1 bt428.2.2 3).bind fun bt434 => (if 0 ≤ bt434.1 then (if bt434.1 < (y431.length : Int) then (if 0 ≤ bt425.1 then (if bt425.1 < (t422.length : Int) then ((spec_l02Sort.f k (t422.set (bt425.1 : Int).toNat (⟨rd y431 bt434.1, (rd_T59 t422 bt425.1).f1⟩ : S59))).bind fun t439 => (some (t439, bt434.2.1, bt434.2.2))) else (none)) else (none)) else (none)) else (none)))) else (if bt428.1 = 1 then (if 0 ≤ bt425.1 then (if bt425.1 < (t422.length : Int) then (if t422.length < 8796093022208 then (some ((t422 ++ [(⟨(rd_T59 t422 bt425.1).f0, (rd_T59 t422 bt425.1).f1⟩ : S59)]), bt428.2.1, bt428.2.2)) else (none)) else (none)) else (none)) else (if bt428.1 = 2 then (some (([] : List (S59)), bt428.2.1, bt428.2.2)) else (if bt428.1 = 3 then (spec_l02Draw.l0 k (([] : List (S59))) 0 s0_0 bt428.2.1 bt428.2.2) else (if bt428.1 = 4 then (if 0 < (t422.length : Int) then (if 0 ≤ (wrap64 ((t422.length : Int) - 1)) then (if (wrap64 ((t422.length : Int) - 1)) < (t422.length : Int) then (if t422.length < 8796093022208 then (some ((t422 ++ [(⟨wrap64 (((rd_T59 t422 0).f0) + 3), wrap64 (((rd_T59 t422 (wrap64 ((t422.length : Int) - 1))).f1) + 2)⟩ : S59)]), bt428.2.1, bt428.2.2)) else (none)) else (none)) else (none)) else (none)) else (if bt428.1 = 5 then (if 0 < (t422.length : Int) then (if 0 ≤ (wrap64 ((t422.length : Int) - 1)) then (if (wrap64 ((t422.length : Int) - 1)) < (t422.length : Int) then (if t422.length < 8796093022208 then (some ((t422 ++ [(⟨wrap64 (((rd_T59 t422 0).f0) + 3), wrap64 (((rd_T59 t422 (wrap64 ((t422.length : Int) - 1))).f1) + 2)⟩ : S59)]), bt428.2.1, bt428.2.2)) else (none)) else (none)) else (none)) else (none)) else (some (t422, bt428.2.1, bt428.2.2)))))))))))) = some (r1, r2, r3) := H
 have A3 := aM A30
 clear A30
 replace H := Option.bind_eq_some_iff.mp H
 obtain ⟨⟨t419, t420, t421⟩, A40, H⟩ := H
 replace H : ((spec_l02Move.f k t411 (wrap64 (t416 - 4)) (wrap64 (t419 - 4))).bind fun t422 => ((spec_l01Next.f s0_0 t420 t421 (t422.length : Int)).bind fun bt425 => ((spec_l01Next.f s0_0 bt425.2.1 bt425.2.2 24).bind fun bt428 => (if bt428.1 = 0 then ((some (([(-100), 100, 101] : List Int) : List Int)).bind fun y431 => ((spec_l01Next.f s0_0 bt428.2.1 bt428.2.2 3).bind fun bt434 => (if 0 ≤ bt434.1 then (if bt434.1 < (y431.length : Int) then (if 0 ≤ bt425.1 then (if bt425.1 < (t422.length : Int) then ((spec_l02Sort.f k (t422.set (bt425.1 : Int).toNat (⟨rd y431 bt434.1, (rd_T59 t422 bt425.1).f1⟩ : S59))).bind fun t439 => (some (t439, bt434.2.1, bt434.2.2))) else (none)) else (none)) else (none)) else (none)))) else (if bt428.1 = 1 then (if 0 ≤ bt425.1 then (if bt425.1 < (t422.length : Int) then (if t422.length < 8796093022208 then (some ((t422 ++ [(⟨(rd_T59 t422 bt425.1).f0, (rd_T59 t422 bt425.1).f1⟩ : S59)]), bt428.2.1, bt428.2.2)) else (none)) else (none)) else (none)) else (if bt428.1 = 2 then (some (([] : List (S59)), bt428.2.1, bt428.2.2)) else (if bt428.1 = 3 then (spec_l02Draw.l0 k (([] : List (S59))) 0 s0_0 bt428.2.1 bt428.2.2) else (if bt428.1 = 4 then (if 0 < (t422.length : Int) then (if 0 ≤ (wrap64 ((t422.length : Int) - 1)) then (if (wrap64 ((t422.length : Int) - 1)) < (t422.length : Int) then (if t422.length < 8796093022208 then (some ((t422 ++ [(⟨wrap64 (((rd_T59 t422 0).f0) + 3), wrap64 (((rd_T59 t422 (wrap64 ((t422.length : Int) - 1))).f1) + 2)⟩ : S59)]), bt428.2.1, bt428.2.2)) else (none)) else (none)) else (none)) else (none)) else (if bt428.1 = 5 then (if 0 < (t422.length : Int) then (if 0 ≤ (wrap64 ((t422.length : Int) - 1)) then (if (wrap64 ((t422.length : Int) - 1)) < (t422.length : Int) then (if t422.length < 8796093022208 then (some ((t422 ++ [(⟨wrap64 (((rd_T59 t422 0).f0) + 3), wrap64 (((rd_T59 t422 (wrap64 ((t422.length : Int) - 1))).f1) + 2)⟩ : S59)]), bt428.2.1, bt428.2.2)) else (none)) else (none)) else (none)) else (none)) else (some (t422, bt428.2.1, bt428.2.2))))))))))) = some (r1, r2, r3) := H
 have A4 := aM A40
 clear A40
 replace H := Option.bind_eq_some_iff.mp H
 obtain ⟨t422, A50, H⟩ := H
 replace H : ((spec_l01Next.f s0_0 t420 t421 (t422.length : Int)).bind fun bt425 => ((spec_l01Next.f s0_0 bt425.2.1 bt425.2.2 24).bind fun bt428 => (if bt428.1 = 0 then ((some (([(-100), 100, 101] : List Int) : List Int)).bind fun y431 => ((spec_l01Next.f s0_0 bt428.2.1 bt428.2.2 3).bind fun bt434 => (if 0 ≤ bt434.1 then (if bt434.1 < (y431.length : Int) then (if 0 ≤ bt425.1 then (if bt425.1 < (t422.length : Int) then ((spec_l02Sort.f k (t422.set (bt425.1 : Int).toNat (⟨rd y431 bt434.1, (rd_T59 t422 bt425.1).f1⟩ : S59))).bind fun t439 => (some (t439, bt434.2.1, bt434.2.2))) else (none)) else (none)) else (none)) else (none)))) else (if bt428.1 = 1 then (if 0 ≤ bt425.1 then (if bt425.1 < (t422.length : Int) then (if t422.length < 8796093022208 then (some ((t422 ++ [(⟨(rd_T59 t422 bt425.1).f0, (rd_T59 t422 bt425.1).f1⟩ : S59)]), bt428.2.1, bt428.2.2)) else (none)) else (none)) else (none)) else (if bt428.1 = 2 then (some (([] : List (S59)), bt428.2.1, bt428.2.2)) else (if bt428.1 = 3 then (spec_l02Draw.l0 k (([] : List (S59))) 0 s0_0 bt428.2.1 bt428.2.2) else (if bt428.1 = 4 then (if 0 < (t422.length : Int) then (if 0 ≤ (wrap64 ((t422.length : Int) - 1)) then (if (wrap64 ((t422.length : Int) - 1)) < (t422.length : Int) then (if t422.length < 8796093022208 then (some ((t422 ++ [(⟨wrap64 (((rd_T59 t422 0).f0) + 3), wrap64 (((rd_T59 t422 (wrap64 ((t422.length : Int) - 1))).f1) + 2)⟩ : S59)]), bt428.2.1, bt428.2.2)) else (none)) else (none)) else (none)) else (none)) else (if bt428.1 = 5 then (if 0 < (t422.length : Int) then (if 0 ≤ (wrap64 ((t422.length : Int) - 1)) then (if (wrap64 ((t422.length : Int) - 1)) < (t422.length : Int) then (if t422.length < 8796093022208 then (some ((t422 ++ [(⟨wrap64 (((rd_T59 t422 0).f0) + 3), wrap64 (((rd_T59 t422 (wrap64 ((t422.length : Int) - 1))).f1) + 2)⟩ : S59)]), bt428.2.1, bt428.2.2)) else (none)) else (none)) else (none)) else (none)) else (some (t422, bt428.2.1, bt428.2.2)))))))))) = some (r1, r2, r3) := H
 have A5 := aM A50
 clear A50
 replace H := Option.bind_eq_some_iff.mp H
 obtain ⟨⟨t425, t426, t427⟩, A60, H⟩ := H
 replace H : ((spec_l01Next.f s0_0 t426 t427 24).bind fun bt428 => (if bt428.1 = 0 then ((some (([(-100), 100, 101] : List Int) : List Int)).bind fun y431 => ((spec_l01Next.f s0_0 bt428.2.1 bt428.2.2 3).bind fun bt434 => (if 0 ≤ bt434.1 then (if bt434.1 < (y431.length : Int) then (if 0 ≤ t425 then (if t425 < (t422.length : Int) then ((spec_l02Sort.f k (t422.set (t425 : Int).toNat (⟨rd y431 bt434.1, (rd_T59 t422 t425).f1⟩ : S59))).bind fun t439 => (some (t439, bt434.2.1, bt434.2.2))) else (none)) else (none)) else (none)) else (none)))) else (if bt428.1 = 1 then (if 0 ≤ t425 then (if t425 < (t422.length : Int) then (if t422.length < 8796093022208 then (some ((t422 ++ [(⟨(rd_T59 t422 t425).f0, (rd_T59 t422 t425).f1⟩ : S59)]), bt428.2.1, bt428.2.2)) else (none)) else (none)) else (none)) else (if bt428.1 = 2 then (some (([] : List (S59)), bt428.2.1, bt428.2.2)) else (if bt428.1 = 3 then (spec_l02Draw.l0 k (([] : List (S59))) 0 s0_0 bt428.2.1 bt428.2.2) else (if bt428.1 = 4 then (if 0 < (t422.length : Int) then (if 0 ≤ (wrap64 ((t422.length : Int) - 1)) then (if (wrap64 ((t422.length : Int) - 1)) < (t422.length : Int) then (if t422.length < 8796093022208 then (some ((t422 ++ [(⟨wrap64 (((rd_T59 t422 0).f0) + 3), wrap64 (((rd_T59 t422 (wrap64 ((t422.length : Int) - 1))).f1) + 2)⟩ : S59)]), bt428.2.1, bt428.2.2)) else (none)) else (none)) else (none)) else (none)) else (if bt428.1 = 5 then (if 0 < (t422.length : Int) then (if 0 ≤ (wrap64 ((t422.length : Int) - 1)) then (if (wrap64 ((t422.length : Int) - 1)) < (t422.length : Int) then (if t422.length < 8796093022208 then (some ((t422 ++ [(⟨wrap64 (((rd_T59 t422 0).f0) + 3), wrap64 (((rd_T59 t422 (wrap64 ((t422.length : Int) - 1))).f1) + 2)⟩ : S59)]), bt428.2.1, bt428.2.2)) else (none)) else (none)) else (none)) else (none)) else (some (t422, bt428.2.1, bt428.2.2))))))))) = some (r1, r2, r3) := H
 have A6 := aM A60
 clear A60
 replace H := Option.bind_eq_some_iff.mp H
 obtain ⟨⟨t428, t429, t430⟩, A70, H⟩ := H
 replace H : (if t428 = 0 then ((some (([(-100), 100, 101] : List Int) : List Int)).bind fun y431 => ((spec_l01Next.f s0_0 t429 t430 3).bind fun bt434 => (if 0 ≤ bt434.1 then (if bt434.1 < (y431.length : Int) then (if 0 ≤ t425 then (if t425 < (t422.length : Int) then ((spec_l02Sort.f k (t422.set (t425 : Int).toNat (⟨rd y431 bt434.1, (rd_T59 t422 t425).f1⟩ : S59))).bind fun t439 => (some (t439, bt434.2.1, bt434.2.2))) else (none)) else (none)) else (none)) else (none)))) else (if t428 = 1 then (if 0 ≤ t425 then (if t425 < (t422.length : Int) then (if t422.length < 8796093022208 then (some ((t422 ++ [(⟨(rd_T59 t422 t425).f0, (rd_T59 t422 t425).f1⟩ : S59)]), t429, t430)) else (none)) else (none)) else (none)) else (if t428 = 2 then (some (([] : List (S59)), t429, t430)) else (if t428 = 3 then (spec_l02Draw.l0 k (([] : List (S59))) 0 s0_0 t429 t430) else (if t428 = 4 then (if 0 < (t422.length : Int) then (if 0 ≤ (wrap64 ((t422.length : Int) - 1)) then (if (wrap64 ((t422.length : Int) - 1)) < (t422.length : Int) then (if t422.length < 8796093022208 then (some ((t422 ++ [(⟨wrap64 (((rd_T59 t422 0).f0) + 3), wrap64 (((rd_T59 t422 (wrap64 ((t422.length : Int) - 1))).f1) + 2)⟩ : S59)]), t429, t430)) else (none)) else (none)) else (none)) else (none)) else (if t428 = 5 then (if 0 < (t422.length : Int) then (if 0 ≤ (wrap64 ((t422.length : Int) - 1)) then (if (wrap64 ((t422.length : Int) - 1)) < (t422.length : Int) then (if t422.length < 8796093022208 then (some ((t422 ++ [(⟨wrap64 (((rd_T59 t422 0).f0) + 3), wrap64 (((rd_T59 t422 (wrap64 ((t422.length : Int) - 1))).f1) + 2)⟩ : S59)]), t429, t430)) else (none)) else (none)) else (none)) else (none)) else (some (t422, t429, t430)))))))) = some (r1, r2, r3) := H
 have A7 := aM A70
 clear A70
 by_cases c8 : t428 = 0
 ·rw [if_pos c8] at H
  have c8b0 : (t428 == 0) = true := beq_iff_eq.mpr c8
  have c8b1 : (t428 != 0) = false := bne_eq_false_iff_eq.mpr c8
  clear c8
  obtain ⟨y431, hy431⟩ : ∃ y_ : List Int, y_ = (([(-100), 100, 101] : List Int)) := ⟨_, rfl⟩
  replace H : ((spec_l01Next.f s0_0 t429 t430 3).bind fun bt434 => (if 0 ≤ bt434.1 then (if bt434.1 < (y431.length : Int) then (if 0 ≤ t425 then (if t425 < (t422.length : Int) then ((spec_l02Sort.f k (t422.set (t425 : Int).toNat (⟨rd y431 bt434.1, (rd_T59 t422 t425).f1⟩ : S59))).bind fun t439 => (some (t439, bt434.2.1, bt434.2.2))) else (none)) else (none)) else (none)) else (none))) = some (r1, r2, r3) := zy H hy431
  have Ny431 := aM hy431
  clear hy431
  replace H := Option.bind_eq_some_iff.mp H
  obtain ⟨⟨t434, t435, t436⟩, A90, H⟩ := H
  replace H : (if 0 ≤ t434 then (if t434 < (y431.length : Int) then (if 0 ≤ t425 then (if t425 < (t422.length : Int) then ((spec_l02Sort.f k (t422.set (t425 : Int).toNat (⟨rd y431 t434, (rd_T59 t422 t425).f1⟩ : S59))).bind fun t439 => (some (t439, t435, t436))) else (none)) else (none)) else (none)) else (none)) = some (r1, r2, r3) := H
  have A9 := aM A90
  clear A90
  by_cases c10 : 0 ≤ t434
  rotate_left
  ·rw [if_neg c10] at H
   exact absurd H (by simp)
  rw [if_pos c10] at H
  have c10b0 : decide (0 ≤ t434) = true := decide_eq_true c10
  clear c10
  by_cases c11 : t434 < (y431.length : Int)
  rotate_left
  ·rw [if_neg c11] at H
   exact absurd H (by simp)
  rw [if_pos c11] at H
  have c11b0 : decide (t434 < (y431.length : Int)) = true := decide_eq_true c11
  clear c11
  by_cases c12 : 0 ≤ t425
  rotate_left
  ·rw [if_neg c12] at H
   exact absurd H (by simp)
  rw [if_pos c12] at H
  have c12b0 : decide (0 ≤ t425) = true := decide_eq_true c12
  clear c12
  by_cases c13 : t425 < (t422.length : Int)
  rotate_left
  ·rw [if_neg c13] at H
   exact absurd H (by simp)
  rw [if_pos c13] at H
  have c13b0 : decide (t425 < (t422.length : Int)) = true := decide_eq_true c13
  clear c13
  obtain ⟨y438, hy438⟩ : ∃ y_ : List (S59), y_ = (t422.set (t425 : Int).toNat (⟨rd y431 t434, (rd_T59 t422 t425).f1⟩ : S59)) := ⟨_, rfl⟩
  replace H : ((spec_l02Sort.f k y438).bind fun t439 => (some (t439, t435, t436))) = some (r1, r2, r3) := zy H hy438
  have Ny438 := aM hy438
  clear hy438
  replace H := Option.bind_eq_some_iff.mp H
  obtain ⟨t439, A150, H⟩ := H
  replace H : (some (t439, t435, t436)) = some (r1, r2, r3) := H
  have A15 := aM A150
  clear A150
  simp only [Option.some.injEq, Prod.mk.injEq] at H
  obtain ⟨rfl, rfl, rfl⟩ := H
  go_enter Try.func103, Try.ntmps103
  go_wp2_with (first | ((with_reducible refine gate_callee (f := 118) rfl ?_); refine goesL_ (some 8) rfl rfl Try.func118 (by kernel_rfl) rfl #[.pointer (some ⟨g, 0, none⟩), .int .i64 8] rfl zm ?_; (with_reducible refine (spec_l02DrawPoly.calls k g s0_0 s0_1 s0_2 8 t411 t414 t415 w0 _ ?side1 ?side2 A2.out).mono ?_); (case side1 => exact zI98 HI0.out); (case side2 => exact zs (IsS98.ge HI0.out)); rintro e w16 ⟨v412, rfl, ho0, hi, hb, hk⟩; refine ⟨_, rfl, ?_⟩; have n0_ := aM (Kd.R_lower ho0 (keep_size (w := w) (g := g) (row := none) (zK HK.out))); have n1_ := aM (KeepBut.trans (zK HK.out) hk (.inl rfl)); have n2_ := aM (hb); have n3_ := aM (hi); clear HK HB HI0; have HO413 := n0_; have HK := n1_; have HB := n2_; have HI0 := n3_; clear n0_ n1_ n2_ n3_; (try clear hb); (try clear hb2); (try clear hk); (try clear hi); (try clear ho0)) | ((with_reducible refine gate_callee (f := 71) rfl ?_); refine goesL_ (some 10) rfl rfl Try.func71 (by kernel_rfl) rfl #[.pointer (some ⟨g, 0, none⟩), .int .i64 9] rfl zm ?_; (with_reducible refine (spec_l01Next.calls g s0_0 t414 t415 9 t416 t417 t418 w0 _ ?side1 ?side2 A3.out).mono ?_); (case side1 => exact zI98 HI0.out); (case side2 => exact zs (IsS98.ge HI0.out)); rintro e w17 ⟨rfl, hi, hb, hk⟩; refine ⟨_, rfl, ?_⟩; have n0_ := aM (Kd.R_mono (Kd.R_keep (IsS98.apart (show IsS98 w0 _ g s0_0 t414 t415 from zI98 HI0.out) (mR_ HO413.out) (by decide)) hk (fun _ h => h.2)) (fun _ h => h.1)); have n1_ := aM (KeepBut.trans (zK HK.out) hk (.inl rfl)); have n2_ := aM (hb); have n3_ := aM (hi); clear HO413 HK HB HI0; have HO413 := n0_; have HK := n1_; have HB := n2_; have HI0 := n3_; clear n0_ n1_ n2_ n3_; (try clear hb); (try clear hb2); (try clear hk); (try clear hi)) | ((with_reducible refine gate_callee (f := 71) rfl ?_); refine goesL_ (some 13) rfl rfl Try.func71 (by kernel_rfl) rfl #[.pointer (some ⟨g, 0, none⟩), .int .i64 9] rfl zm ?_; (with_reducible refine (spec_l01Next.calls g s0_0 t417 t418 9 t419 t420 t421 w0 _ ?side1 ?side2 A4.out).mono ?_); (case side1 => exact zI98 HI0.out); (case side2 => exact zs (IsS98.ge HI0.out)); rintro e w18 ⟨rfl, hi, hb, hk⟩; refine ⟨_, rfl, ?_⟩; have n0_ := aM (Kd.R_mono (Kd.R_keep (IsS98.apart (show IsS98 w0 _ g s0_0 t417 t418 from zI98 HI0.out) (mR_ HO413.out) (by decide)) hk (fun _ h => h.2)) (fun _ h => h.1)); have n1_ := aM (KeepBut.trans (zK HK.out) hk (.inl rfl)); have n2_ := aM (hb); have n3_ := aM (hi); clear HO413 HK HB HI0; have HO413 := n0_; have HK := n1_; have HB := n2_; have HI0 := n3_; clear n0_ n1_ n2_ n3_; (try clear hb); (try clear hb2); (try clear hk); (try clear hi); obtain ⟨Ao19, co19, eo19⟩ := Kd.R_slice HO413.out; subst eo19) | ((with_reducible refine gate_callee (f := 122) rfl ?_); refine goesL_ (some 15) rfl rfl Try.func122 (by kernel_rfl) rfl #[.slice Ao19 t411.length co19, .int .i64 (wrap64 (t416 - 4)), .int .i64 (wrap64 (t419 - 4))] rfl zm ?_; (with_reducible refine (spec_l02Move.calls k _ _ t411 (wrap64 (t416 - 4)) (wrap64 (t419 - 4)) t422 _ ?side1 ?side2 A5.out).mono ?_); (case side1 => exact zc HO413.out); (case side2 => exact (Kd.R_reads' HO413.out).2.1); rintro e w20 ⟨v423, rfl, ho0, hb⟩; refine ⟨_, rfl, ?_⟩; have n0_ := aM (Kd.R_elder' (mR_ HO413.out) (Kd.R_base ho0) hb); have n1_ := aM (Kd.R_lower (Kd.R_new' ho0 (Kd.R_lt (mR_ HO413.out))) (keep_size (w := w) (g := g) (row := none) (zK HK.out))); have n2_ := aM (IsS98.below (zI98 HI0.out) hb); have n3_ := aM (KeepBut.trans (zK HK.out) (KeepBut.of_below hb g none) (.inl rfl)); have n4_ := aM (below_step (zs (IsS98.ge HI0.out)) hb); clear HO413 HI0 HK HB; have HO413 := n0_; have HO424 := n1_; have HI0 := n2_; have HK := n3_; have HB := n4_; clear n0_ n1_ n2_ n3_ n4_; (try clear hb); (try clear hb2); (try clear hk); (try clear hi); (try clear ho0); obtain ⟨Ao21, co21, eo21⟩ := Kd.R_slice HO424.out; subst eo21) | ((with_reducible refine gate_callee (f := 71) rfl ?_); refine goesL_ (some 19) rfl rfl Try.func71 (by kernel_rfl) rfl #[.pointer (some ⟨g, 0, none⟩), .int .i64 (t422.length : Int)] rfl zm ?_; (with_reducible refine (spec_l01Next.calls g s0_0 t420 t421 (t422.length : Int) t425 t426 t427 w0 _ ?side1 ?side2 A6.out).mono ?_); (case side1 => exact zI98 HI0.out); (case side2 => exact zs (IsS98.ge HI0.out)); rintro e w22 ⟨rfl, hi, hb, hk⟩; refine ⟨_, rfl, ?_⟩; have n0_ := aM (Kd.R_mono (Kd.R_keep (IsS98.apart (show IsS98 w0 _ g s0_0 t420 t421 from zI98 HI0.out) (mR_ HO413.out) (by decide)) hk (fun _ h => h.2)) (fun _ h => h.1)); have n1_ := aM (Kd.R_mono (Kd.R_keep (IsS98.apart (show IsS98 w0 _ g s0_0 t420 t421 from zI98 HI0.out) (mR_ HO424.out) (by decide)) hk (fun _ h => h.2)) (fun _ h => h.1)); have n2_ := aM (KeepBut.trans (zK HK.out) hk (.inl rfl)); have n3_ := aM (hb); have n4_ := aM (hi); clear HO413 HO424 HK HB HI0; have HO413 := n0_; have HO424 := n1_; have HK := n2_; have HB := n3_; have HI0 := n4_; clear n0_ n1_ n2_ n3_ n4_; (try clear hb); (try clear hb2); (try clear hk); (try clear hi)) | ((with_reducible refine gate_callee (f := 71) rfl ?_); refine goesL_ (some 21) rfl rfl Try.func71 (by kernel_rfl) rfl #[.pointer (some ⟨g, 0, none⟩), .int .i64 24] rfl zm ?_; (with_reducible refine (spec_l01Next.calls g s0_0 t426 t427 24 t428 t429 t430 w0 _ ?side1 ?side2 A7.out).mono ?_); (case side1 => exact zI98 HI0.out); (case side2 => exact zs (IsS98.ge HI0.out)); rintro e w23 ⟨rfl, hi, hb, hk⟩; refine ⟨_, rfl, ?_⟩; have n0_ := aM (Kd.R_mono (Kd.R_keep (IsS98.apart (show IsS98 w0 _ g s0_0 t426 t427 from zI98 HI0.out) (mR_ HO413.out) (by decide)) hk (fun _ h => h.2)) (fun _ h => h.1)); have n1_ := aM (Kd.R_mono (Kd.R_keep (IsS98.apart (show IsS98 w0 _ g s0_0 t426 t427 from zI98 HI0.out) (mR_ HO424.out) (by decide)) hk (fun _ h => h.2)) (fun _ h => h.1)); have n2_ := aM (KeepBut.trans (zK HK.out) hk (.inl rfl)); have n3_ := aM (hb); have n4_ := aM (hi); clear HO413 HO424 HK HB HI0; have HO413 := n0_; have HO424 := n1_; have HK := n2_; have HB := n3_; have HI0 := n4_; clear n0_ n1_ n2_ n3_ n4_; (try clear hb); (try clear hb2); (try clear hk); (try clear hi)) | ((with_reducible refine gate_dst (N := 26) rfl ?_); refine Kd.R_lit (Kd.int .i64) _ 2 ?hg (N := 26) ?hd (xs := ([(-100), 100, 101] : List Int)) (inner := [.int .i64 (-100), .int .i64 100, .int .i64 101]) (ok := fun _ => True) (okp := fun _ => True) ?hr ?hp (fun _ hk => hk) trivial (Below.refl _ _) (Nat.le_refl _) (by simp) ?_; (case hd => rfl); (case hg => rfl); (case hr => first | (go_simp; done) | (go_simp; rfl)); (case hp => exact (Reps.one (show Kd.M (Kd.int .i64) _ _ _ (-100) [.int .i64 (-100)] from rfl) (Reps.one (show Kd.M (Kd.int .i64) _ _ _ 100 [.int .i64 100] from rfl) (Reps.one (show Kd.M (Kd.int .i64) _ _ _ 101 [.int .i64 101] from rfl) (Reps.none _ _))))); intro v432 w24 ho25 hb hg_ hnew_; clear hg_ hnew_; (first | rw [← Ny431.out] at ho25 | (simp only [Int.reduceToNat] at ho25; rw [← Ny431.out] at ho25)); have n0_ := aM (Kd.R_below (mR_ HO413.out) hb); have n1_ := aM (Kd.R_below (mR_ HO424.out) hb); have n2_ := aM (Kd.R_lower ho25 (keep_size (w := w) (g := g) (row := none) (zK HK.out))); have n3_ := aM (IsS98.below (zI98 HI0.out) hb); have n4_ := aM (KeepBut.trans (zK HK.out) (KeepBut.of_below hb g none) (.inl rfl)); have n5_ := aM (below_step (zs (IsS98.ge HI0.out)) hb); clear HO413 HO424 HI0 HK HB; have HO413 := n0_; have HO424 := n1_; have HO433 := n2_; have HI0 := n3_; have HK := n4_; have HB := n5_; clear n0_ n1_ n2_ n3_ n4_ n5_; clear hb ho25) | ((with_reducible refine gate_callee (f := 71) rfl ?_); refine goesL_ (some 28) rfl rfl Try.func71 (by kernel_rfl) rfl #[.pointer (some ⟨g, 0, none⟩), .int .i64 3] rfl zm ?_; (with_reducible refine (spec_l01Next.calls g s0_0 t429 t430 3 t434 t435 t436 w0 _ ?side1 ?side2 A9.out).mono ?_); (case side1 => exact zI98 HI0.out); (case side2 => exact zs (IsS98.ge HI0.out)); rintro e w26 ⟨rfl, hi, hb, hk⟩; refine ⟨_, rfl, ?_⟩; have n0_ := aM (Kd.R_mono (Kd.R_keep (IsS98.apart (show IsS98 w0 _ g s0_0 t429 t430 from zI98 HI0.out) (mR_ HO413.out) (by decide)) hk (fun _ h => h.2)) (fun _ h => h.1)); have n1_ := aM (Kd.R_mono (Kd.R_keep (IsS98.apart (show IsS98 w0 _ g s0_0 t429 t430 from zI98 HI0.out) (mR_ HO424.out) (by decide)) hk (fun _ h => h.2)) (fun _ h => h.1)); have n2_ := aM (Kd.R_mono (Kd.R_keep (IsS98.apart (show IsS98 w0 _ g s0_0 t429 t430 from zI98 HI0.out) (mR_ HO433.out) (by decide)) hk (fun _ h => h.2)) (fun _ h => h.1)); have n3_ := aM (KeepBut.trans (zK HK.out) hk (.inl rfl)); have n4_ := aM (hb); have n5_ := aM (hi); clear HO413 HO424 HO433 HK HB HI0; have HO413 := n0_; have HO424 := n1_; have HO433 := n2_; have HK := n3_; have HB := n4_; have HI0 := n5_; clear n0_ n1_ n2_ n3_ n4_ n5_; (try clear hb); (try clear hb2); (try clear hk); (try clear hi); obtain ⟨Ao27, co27, eo27⟩ := Kd.R_slice HO433.out; subst eo27; have p437 : 0 ≤ (t434 : Int) := of_decide_eq_true za; have q437 : t434 < (y431.length : Int) := of_decide_eq_true za; obtain ⟨ad437, e437, hx437_0⟩ := Kd.at_int (Kd.R_reads' HO433.out).2.2 t434 p437 q437; cases e437; replace p437 := eq_true p437; replace q437 := eq_true q437; have p14 : 0 ≤ (t425 : Int) := of_decide_eq_true za; have q14 : (t425 : Int) < ((t422.length : Int) : Int) := of_decide_eq_true za; obtain ⟨go14, co14, eo14, gb14, gl14, cl14, HG14⟩ := Kd.R_form HO424.out (by omega); (first | cases eo14 | (injection eo14 with ea_ en_ ec_; (first | subst ea_ | (injection ea_ with ea_; subst ea_)); subst ec_; clear en_)); have GB14 := aM gb14; have GG14 := aM HG14; clear gb14 gl14 HG14; obtain ⟨ce14, hcl14, hM14, hcc14, hfr14⟩ := Kd.R_elem HO424.out z59 (t425 : Int) p14 q14; obtain rfl := k59_openM hM14; have hx14_0 : w26.cell? ⟨go14, (t425 : Int).toNat * 2, none⟩ = some (.int .i64 ((rd_T59 t422 t425).f0)) := hcc14 0 _ rfl; have hx14_1 : w26.cell? ⟨go14, (t425 : Int).toNat * 2 + 1, none⟩ = some (.int .i64 ((rd_T59 t422 t425).f1)) := hcc14 1 _ rfl; have hf14_0 : w26.frozen? ⟨go14, (t425 : Int).toNat * 2, none⟩ = false := hfr14 0; have hf14_1 : w26.frozen? ⟨go14, (t425 : Int).toNat * 2 + 1, none⟩ = false := hfr14 1; clear hcl14 hcc14 hfr14 hM14; replace p14 := eq_true p14; replace q14 := eq_true q14; have n_ := aM (Kd.R_mono (ok' := (fun k_ => some k_ ≠ (.slice Ao19 t411.length co19 : Value).ownBlock)) HO424.out (fun k_ hk => hk.2)); clear HO424; have HO424 := n_; clear n_; have HX28 := aM (show Kd.R k59 59 w26 w.heap.size (fun k_ => some k_ ≠ (.slice Ao19 t411.length co19 : Value).ownBlock) (.slice (some ⟨go14, 0, none⟩) t422.length co21) t422 from (mR_ HO424.out)); obtain ⟨ce28, hcl28, hM28, hcc28, hfr28⟩ := Kd.R_elem HX28.out z59 (t425 : Int) (of_decide_eq_true za) (by have h_ : (t425 : Int) < ((t422.length : Int) : Int) := of_decide_eq_true za; first | exact h_ | (have e_ := (Kd.R_reads' HO424.out).1; omega) | simpa using h_); obtain rfl := k59_openM hM28; have HP28 := Kd.R_seg HX28.out (t425 : Int) (of_decide_eq_true za) (by have h_ : (t425 : Int) < ((t422.length : Int) : Int) := of_decide_eq_true za; first | exact h_ | (have e_ := (Kd.R_reads' HO424.out).1; omega) | simpa using h_) (seg := [.int .i64 (rd y431 t434)]) (j := 0) hcl28 hcc28 (show 1 ≤ 2 from by decide) (x' := (⟨rd y431 t434, (rd_T59 t422 t425).f1⟩ : S59)) (k59_mkM _ _ _ (⟨rd y431 t434, (rd_T59 t422 t425).f1⟩ : S59) ) (fun _ hk => hk); have hx28_0 := hcc28 0 _ rfl; (try simp only [show (k59).sz = 2 from rfl, Nat.mul_one, Nat.add_zero] at hx28_0); have hf28_0 := hfr28 0; (try simp only [show (k59).sz = 2 from rfl, Nat.mul_one, Nat.add_zero] at hf28_0); clear hcl28 hcc28 hfr28 hM28) | ((with_reducible refine gate_store (t := 2) (p := 32) rfl ?_); refine store_event (t := 2) (p := 32) (v := ?vo_w29) (w1 := (w26.setCell ⟨go14, (t425 : Int).toNat * 2, none⟩ (.int .i64 (rd y431 t434)))) ?hg ?ho ?hn ?hr ?_; (case ho => rfl); (case hg => rfl); (case hn => rfl); (case hr => first | (go_simp; done) | (go_simp; rfl)); intro w29 hw; have hg : w26.grownBy w29 (some go14) := (by rw [hw]; exact HP28.2); have hp_ : Kd.R k59 59 w29 w.heap.size (fun k_ => some k_ ≠ (.slice Ao19 t411.length co19 : Value).ownBlock) (.slice (some ⟨go14, 0, none⟩) t422.length co21) y438 := (by rw [hw, Ny438.out]; exact HP28.1); clear HP28; have n0_ := aM (IsS98.grown (zI98 HI0.out) hg (IsS98.own_ne HI0.out HO424.out (by decide))); have n1_ := aM (Kd.R_after (v := (.slice (some ⟨go14, 0, none⟩) t422.length co21)) (v1 := (.slice (some ⟨go14, 0, none⟩) t422.length co21)) (ok := (fun _ => True)) (mR_ HO413.out) hg (.inl rfl)); have n2_ := aM (hp_); have n3_ := aM (Kd.R_over' (v := (.slice (some ⟨go14, 0, none⟩) t422.length co21)) (mR_ HO433.out) (Kd.R_typed HO424.out) (by decide) hg); have n4_ := aM ((by rw [hw]; exact below_set (HB.out) (Nat.le_trans HL.out GB14.out) : Below w0.heap.size w0 w29)); have n5_ := aM (KeepBut.trans (zK HK.out) (KeepBut.of_grown hg g) (Kd.R_base2 HO424.out)); clear HI0 HO413 HO424 HO433 HB HK; have HI0 := n0_; have HO413 := n1_; have HO424 := n2_; have HO433 := n3_; have HB := n4_; have HK := n5_; clear n0_ n1_ n2_ n3_ n4_ n5_; clear hg hw hp_) | ((with_reducible refine gate_callee (f := 55) rfl ?_); refine goesL_ (some 34) rfl rfl Try.func55 (by kernel_rfl) rfl #[.slice (some ⟨go14, 0, none⟩) y438.length co21] rfl (by (try simp only [mA, mB, mC]); first | done | (rw [show y438.length = t422.length from (Kd.R_reads' HO424.out).1.symm] <;> rfl) | rfl | (simp only [lD, lT]; rfl)) ?_; (with_reducible refine (spec_l02Sort.calls k _ _ y438 t439 _ ?side1 ?side2 A15.out).mono ?_); (case side1 => exact zc HO424.out); (case side2 => rw [show y438.length = t422.length from (Kd.R_reads' HO424.out).1.symm]; exact (Kd.R_reads' HO424.out).2.1); rintro e w30 ⟨v440, rfl, ho0, hb⟩; refine ⟨_, rfl, ?_⟩; have n0_ := aM (Kd.R_elder' (mR_ HO413.out) (Kd.R_base ho0) hb); have n1_ := aM (Kd.R_elder' (mR_ HO424.out) (Kd.R_base ho0) hb); have n2_ := aM (Kd.R_below (mR_ HO433.out) hb); have n3_ := aM (Kd.R_lower (Kd.R_new' (Kd.R_new' ho0 (Kd.R_lt (mR_ HO413.out))) (Kd.R_lt (mR_ HO424.out))) (keep_size (w := w) (g := g) (row := none) (zK HK.out))); have n4_ := aM (IsS98.below (zI98 HI0.out) hb); have n5_ := aM (KeepBut.trans (zK HK.out) (KeepBut.of_below hb g none) (.inl rfl)); have n6_ := aM (below_step (zs (IsS98.ge HI0.out)) hb); clear HO413 HO424 HO433 HI0 HK HB; have HO413 := n0_; have HO424 := n1_; have HO433 := n2_; have HO441 := n3_; have HI0 := n4_; have HK := n5_; have HB := n6_; clear n0_ n1_ n2_ n3_ n4_ n5_ n6_; (try clear hb); (try clear hb2); (try clear hk); (try clear hi); (try clear ho0)))
  go_ret
  exact ⟨_, zw, zd0 HO441.out, zI98 HI0.out, zs (IsS98.ge HI0.out), zK HK.out⟩
 rw [if_neg c8] at H
 have c8b0 : (t428 == 0) = false := beq_eq_false_iff_ne.mpr c8
 have c8b1 : (t428 != 0) = true := bne_iff_ne.mpr c8
 by_cases c31 : t428 = 1
 ·rw [if_pos c31] at H
  have c31b0 : (t428 == 1) = true := beq_iff_eq.mpr c31
  have c31b1 : (t428 != 1) = false := bne_eq_false_iff_eq.mpr c31
  clear c31
  by_cases c32 : 0 ≤ t425
  rotate_left
  ·rw [if_neg c32] at H
   exact absurd H (by simp)
  rw [if_pos c32] at H
  have c32b0 : decide (0 ≤ t425) = true := decide_eq_true c32
  clear c32
  by_cases c33 : t425 < (t422.length : Int)
  rotate_left
  ·rw [if_neg c33] at H
   exact absurd H (by simp)
  rw [if_pos c33] at H
  have c33b0 : decide (t425 < (t422.length : Int)) = true := decide_eq_true c33
  clear c33
  by_cases c34 : t422.length < 8796093022208
  rotate_left
  ·rw [if_neg c34] at H
   exact absurd H (by simp)
  rw [if_pos c34] at H
  have LMc34 := aM c34
  clear c34
  obtain ⟨y443, hy443⟩ : ∃ y_ : List (S59), y_ = (t422 ++ [(⟨(rd_T59 t422 t425).f0, (rd_T59 t422 t425).f1⟩ : S59)]) := ⟨_, rfl⟩
  replace H : (some (y443, t429, t430)) = some (r1, r2, r3) := zy H hy443
  have Ny443 := aM hy443
  clear hy443
  simp only [Option.some.injEq, Prod.mk.injEq] at H
  obtain ⟨rfl, rfl, rfl⟩ := H
  go_enter Try.func103, Try.ntmps103
  go_wp2_with (first | ((with_reducible refine gate_callee (f := 118) rfl ?_); refine goesL_ (some 8) rfl rfl Try.func118 (by kernel_rfl) rfl #[.pointer (some ⟨g, 0, none⟩), .int .i64 8] rfl zm ?_; (with_reducible refine (spec_l02DrawPoly.calls k g s0_0 s0_1 s0_2 8 t411 t414 t415 w0 _ ?side1 ?side2 A2.out).mono ?_); (case side1 => exact zI98 HI0.out); (case side2 => exact zs (IsS98.ge HI0.out)); rintro e w35 ⟨v412, rfl, ho0, hi, hb, hk⟩; refine ⟨_, rfl, ?_⟩; have n0_ := aM (Kd.R_lower ho0 (keep_size (w := w) (g := g) (row := none) (zK HK.out))); have n1_ := aM (KeepBut.trans (zK HK.out) hk (.inl rfl)); have n2_ := aM (hb); have n3_ := aM (hi); clear HK HB HI0; have HO413 := n0_; have HK := n1_; have HB := n2_; have HI0 := n3_; clear n0_ n1_ n2_ n3_; (try clear hb); (try clear hb2); (try clear hk); (try clear hi); (try clear ho0)) | ((with_reducible refine gate_callee (f := 71) rfl ?_); refine goesL_ (some 10) rfl rfl Try.func71 (by kernel_rfl) rfl #[.pointer (some ⟨g, 0, none⟩), .int .i64 9] rfl zm ?_; (with_reducible refine (spec_l01Next.calls g s0_0 t414 t415 9 t416 t417 t418 w0 _ ?side1 ?side2 A3.out).mono ?_); (case side1 => exact zI98 HI0.out); (case side2 => exact zs (IsS98.ge HI0.out)); rintro e w36 ⟨rfl, hi, hb, hk⟩; refine ⟨_, rfl, ?_⟩; have n0_ := aM (Kd.R_mono (Kd.R_keep (IsS98.apart (show IsS98 w0 _ g s0_0 t414 t415 from zI98 HI0.out) (mR_ HO413.out) (by decide)) hk (fun _ h => h.2)) (fun _ h => h.1)); have n1_ := aM (KeepBut.trans (zK HK.out) hk (.inl rfl)); have n2_ := aM (hb); have n3_ := aM (hi); clear HO413 HK HB HI0; have HO413 := n0_; have HK := n1_; have HB := n2_; have HI0 := n3_; clear n0_ n1_ n2_ n3_; (try clear hb); (try clear hb2); (try clear hk); (try clear hi)) | ((with_reducible refine gate_callee (f := 71) rfl ?_); refine goesL_ (some 13) rfl rfl Try.func71 (by kernel_rfl) rfl #[.pointer (some ⟨g, 0, none⟩), .int .i64 9] rfl zm ?_; (with_reducible refine (spec_l01Next.calls g s0_0 t417 t418 9 t419 t420 t421 w0 _ ?side1 ?side2 A4.out).mono ?_); (case side1 => exact zI98 HI0.out); (case side2 => exact zs (IsS98.ge HI0.out)); rintro e w37 ⟨rfl, hi, hb, hk⟩; refine ⟨_, rfl, ?_⟩; have n0_ := aM (Kd.R_mono (Kd.R_keep (IsS98.apart (show IsS98 w0 _ g s0_0 t417 t418 from zI98 HI0.out) (mR_ HO413.out) (by decide)) hk (fun _ h => h.2)) (fun _ h => h.1)); have n1_ := aM (KeepBut.trans (zK HK.out) hk (.inl rfl)); have n2_ := aM (hb); have n3_ := aM (hi); clear HO413 HK HB HI0; have HO413 := n0_; have HK := n1_; have HB := n2_; have HI0 := n3_; clear n0_ n1_ n2_ n3_; (try clear hb); (try clear hb2); (try clear hk); (try clear hi); obtain ⟨Ao38, co38, eo38⟩ := Kd.R_slice HO413.out; subst eo38) | ((with_reducible refine gate_callee (f := 122) rfl ?_); refine goesL_ (some 15) rfl rfl Try.func122 (by kernel_rfl) rfl #[.slice Ao38 t411.length co38, .int .i64 (wrap64 (t416 - 4)), .int .i64 (wrap64 (t419 - 4))] rfl zm ?_; (with_reducible refine (spec_l02Move.calls k _ _ t411 (wrap64 (t416 - 4)) (wrap64 (t419 - 4)) t422 _ ?side1 ?side2 A5.out).mono ?_); (case side1 => exact zc HO413.out); (case side2 => exact (Kd.R_reads' HO413.out).2.1); rintro e w39 ⟨v423, rfl, ho0, hb⟩; refine ⟨_, rfl, ?_⟩; have n0_ := aM (Kd.R_elder' (mR_ HO413.out) (Kd.R_base ho0) hb); have n1_ := aM (Kd.R_lower (Kd.R_new' ho0 (Kd.R_lt (mR_ HO413.out))) (keep_size (w := w) (g := g) (row := none) (zK HK.out))); have n2_ := aM (IsS98.below (zI98 HI0.out) hb); have n3_ := aM (KeepBut.trans (zK HK.out) (KeepBut.of_below hb g none) (.inl rfl)); have n4_ := aM (below_step (zs (IsS98.ge HI0.out)) hb); clear HO413 HI0 HK HB; have HO413 := n0_; have HO424 := n1_; have HI0 := n2_; have HK := n3_; have HB := n4_; clear n0_ n1_ n2_ n3_ n4_; (try clear hb); (try clear hb2); (try clear hk); (try clear hi); (try clear ho0); obtain ⟨Ao40, co40, eo40⟩ := Kd.R_slice HO424.out; subst eo40) | ((with_reducible refine gate_callee (f := 71) rfl ?_); refine goesL_ (some 19) rfl rfl Try.func71 (by kernel_rfl) rfl #[.pointer (some ⟨g, 0, none⟩), .int .i64 (t422.length : Int)] rfl zm ?_; (with_reducible refine (spec_l01Next.calls g s0_0 t420 t421 (t422.length : Int) t425 t426 t427 w0 _ ?side1 ?side2 A6.out).mono ?_); (case side1 => exact zI98 HI0.out); (case side2 => exact zs (IsS98.ge HI0.out)); rintro e w41 ⟨rfl, hi, hb, hk⟩; refine ⟨_, rfl, ?_⟩; have n0_ := aM (Kd.R_mono (Kd.R_keep (IsS98.apart (show IsS98 w0 _ g s0_0 t420 t421 from zI98 HI0.out) (mR_ HO413.out) (by decide)) hk (fun _ h => h.2)) (fun _ h => h.1)); have n1_ := aM (Kd.R_mono (Kd.R_keep (IsS98.apart (show IsS98 w0 _ g s0_0 t420 t421 from zI98 HI0.out) (mR_ HO424.out) (by decide)) hk (fun _ h => h.2)) (fun _ h => h.1)); have n2_ := aM (KeepBut.trans (zK HK.out) hk (.inl rfl)); have n3_ := aM (hb); have n4_ := aM (hi); clear HO413 HO424 HK HB HI0; have HO413 := n0_; have HO424 := n1_; have HK := n2_; have HB := n3_; have HI0 := n4_; clear n0_ n1_ n2_ n3_ n4_; (try clear hb); (try clear hb2); (try clear hk); (try clear hi)) | ((with_reducible refine gate_callee (f := 71) rfl ?_); refine goesL_ (some 21) rfl rfl Try.func71 (by kernel_rfl) rfl #[.pointer (some ⟨g, 0, none⟩), .int .i64 24] rfl zm ?_; (with_reducible refine (spec_l01Next.calls g s0_0 t426 t427 24 t428 t429 t430 w0 _ ?side1 ?side2 A7.out).mono ?_); (case side1 => exact zI98 HI0.out); (case side2 => exact zs (IsS98.ge HI0.out)); rintro e w42 ⟨rfl, hi, hb, hk⟩; refine ⟨_, rfl, ?_⟩; have n0_ := aM (Kd.R_mono (Kd.R_keep (IsS98.apart (show IsS98 w0 _ g s0_0 t426 t427 from zI98 HI0.out) (mR_ HO413.out) (by decide)) hk (fun _ h => h.2)) (fun _ h => h.1)); have n1_ := aM (Kd.R_mono (Kd.R_keep (IsS98.apart (show IsS98 w0 _ g s0_0 t426 t427 from zI98 HI0.out) (mR_ HO424.out) (by decide)) hk (fun _ h => h.2)) (fun _ h => h.1)); have n2_ := aM (KeepBut.trans (zK HK.out) hk (.inl rfl)); have n3_ := aM (hb); have n4_ := aM (hi); clear HO413 HO424 HK HB HI0; have HO413 := n0_; have HO424 := n1_; have HK := n2_; have HB := n3_; have HI0 := n4_; clear n0_ n1_ n2_ n3_ n4_; (try clear hb); (try clear hb2); (try clear hk); (try clear hi); have p442 : 0 ≤ (t425 : Int) := of_decide_eq_true za; have q442 : t425 < (t422.length : Int) := of_decide_eq_true za; obtain ⟨ad442, e442, hx442_0, hx442_1⟩ := at_T59 (Kd.R_reads' HO424.out).2.2 t425 p442 q442; cases e442; replace p442 := eq_true p442; replace q442 := eq_true q442) | ((with_reducible refine gate_builtin (b := .append) (xs := #[.tmp 37, .tmp 42]) rfl ?_); at_builtin; refine Kd.R_append k59 w.heap.size rfl (.tmp 37) (.tmp 42) 24 59 (.agg #[(.int .i64 0), (.int .i64 0)]) 16 rfl Try.underlying24 info59 rfl (by decide) (by omega) (.slice (some ad442) t422.length co40) t422 (⟨(rd_T59 t422 t425).f0, (rd_T59 t422 t425).f1⟩ : S59) [.int .i64 ((rd_T59 t422 t425).f0), .int .i64 ((rd_T59 t422 t425).f1)] (fun k_ => some k_ ≠ (.slice Ao38 t411.length co38 : Value).ownBlock) (fun _ => False) rfl rfl ?aP (fun _ hk => hk.elim) ?aF ?aO (Below.refl _ _) ?aS ?aL ?_; (case aP => exact k59_mkM _ _ _ (⟨(rd_T59 t422 t425).f0, (rd_T59 t422 t425).f1⟩ : S59)); (case aF => exact (fun k_ hk => Kd.fresh' (Kd.R_lt (mR_ HO413.out)) k_ hk)); (case aO => exact (zd1 HO424.out)); (case aS => exact (keep_size (w := w) (g := g) (row := none) (zK HK.out))); (case aL => have := LMc34.out; omega); intro v444 w43 ho hb hg hat; rw [← Ny443.out] at ho; have n0_ := aM (IsS98.grown (zI98 HI0.out) hg (IsS98.own_ne HI0.out HO424.out (by decide))); have n1_ := aM (Kd.R_after (ok := (fun _ => True)) (mR_ HO413.out) hg hat); have n2_ := aM (below_weaken (zs (IsS98.ge HI0.out)) HL.out hb); have n3_ := aM (KeepBut.trans (zK HK.out) (KeepBut.of_grown hg g) (Kd.R_base2 HO424.out)); have n4_ := aM (ho); clear HI0 HO413 HB HK HO424; have HI0 := n0_; have HO413 := n1_; have HB := n2_; have HK := n3_; have HO445 := n4_; clear n0_ n1_ n2_ n3_ n4_; clear ho hb hg hat))
  go_ret
  exact ⟨_, zw, zd0 HO445.out, zI98 HI0.out, zs (IsS98.ge HI0.out), zK HK.out⟩
 rw [if_neg c31] at H
 have c31b0 : (t428 == 1) = false := beq_eq_false_iff_ne.mpr c31
 have c31b1 : (t428 != 1) = true := bne_iff_ne.mpr c31
 by_cases c44 : t428 = 2
 ·rw [if_pos c44] at H
  have c44b0 : (t428 == 2) = true := beq_iff_eq.mpr c44
  have c44b1 : (t428 != 2) = false := bne_eq_false_iff_eq.mpr c44
  clear c44
  simp only [Option.some.injEq, Prod.mk.injEq] at H
  obtain ⟨rfl, rfl, rfl⟩ := H
  go_enter Try.func103, Try.ntmps103
  go_wp2_with (first | ((with_reducible refine gate_callee (f := 118) rfl ?_); refine goesL_ (some 8) rfl rfl Try.func118 (by kernel_rfl) rfl #[.pointer (some ⟨g, 0, none⟩), .int .i64 8] rfl zm ?_; (with_reducible refine (spec_l02DrawPoly.calls k g s0_0 s0_1 s0_2 8 t411 t414 t415 w0 _ ?side1 ?side2 A2.out).mono ?_); (case side1 => exact zI98 HI0.out); (case side2 => exact zs (IsS98.ge HI0.out)); rintro e w45 ⟨v412, rfl, ho0, hi, hb, hk⟩; refine ⟨_, rfl, ?_⟩; have n0_ := aM (Kd.R_lower ho0 (keep_size (w := w) (g := g) (row := none) (zK HK.out))); have n1_ := aM (KeepBut.trans (zK HK.out) hk (.inl rfl)); have n2_ := aM (hb); have n3_ := aM (hi); clear HK HB HI0; have HO413 := n0_; have HK := n1_; have HB := n2_; have HI0 := n3_; clear n0_ n1_ n2_ n3_; (try clear hb); (try clear hb2); (try clear hk); (try clear hi); (try clear ho0)) | ((with_reducible refine gate_callee (f := 71) rfl ?_); refine goesL_ (some 10) rfl rfl Try.func71 (by kernel_rfl) rfl #[.pointer (some ⟨g, 0, none⟩), .int .i64 9] rfl zm ?_; (with_reducible refine (spec_l01Next.calls g s0_0 t414 t415 9 t416 t417 t418 w0 _ ?side1 ?side2 A3.out).mono ?_); (case side1 => exact zI98 HI0.out); (case side2 => exact zs (IsS98.ge HI0.out)); rintro e w46 ⟨rfl, hi, hb, hk⟩; refine ⟨_, rfl, ?_⟩; have n0_ := aM (Kd.R_mono (Kd.R_keep (IsS98.apart (show IsS98 w0 _ g s0_0 t414 t415 from zI98 HI0.out) (mR_ HO413.out) (by decide)) hk (fun _ h => h.2)) (fun _ h => h.1)); have n1_ := aM (KeepBut.trans (zK HK.out) hk (.inl rfl)); have n2_ := aM (hb); have n3_ := aM (hi); clear HO413 HK HB HI0; have HO413 := n0_; have HK := n1_; have HB := n2_; have HI0 := n3_; clear n0_ n1_ n2_ n3_; (try clear hb); (try clear hb2); (try clear hk); (try clear hi)) | ((with_reducible refine gate_callee (f := 71) rfl ?_); refine goesL_ (some 13) rfl rfl Try.func71 (by kernel_rfl) rfl #[.pointer (some ⟨g, 0, none⟩), .int .i64 9] rfl zm ?_; (with_reducible refine (spec_l01Next.calls g s0_0 t417 t418 9 t419 t420 t421 w0 _ ?side1 ?side2 A4.out).mono ?_); (case side1 => exact zI98 HI0.out); (case side2 => exact zs (IsS98.ge HI0.out)); rintro e w47 ⟨rfl, hi, hb, hk⟩; refine ⟨_, rfl, ?_⟩; have n0_ := aM (Kd.R_mono (Kd.R_keep (IsS98.apart (show IsS98 w0 _ g s0_0 t417 t418 from zI98 HI0.out) (mR_ HO413.out) (by decide)) hk (fun _ h => h.2)) (fun _ h => h.1)); have n1_ := aM (KeepBut.trans (zK HK.out) hk (.inl rfl)); have n2_ := aM (hb); have n3_ := aM (hi); clear HO413 HK HB HI0; have HO413 := n0_; have HK := n1_; have HB := n2_; have HI0 := n3_; clear n0_ n1_ n2_ n3_; (try clear hb); (try clear hb2); (try clear hk); (try clear hi); obtain ⟨Ao48, co48, eo48⟩ := Kd.R_slice HO413.out; subst eo48) | ((with_reducible refine gate_callee (f := 122) rfl ?_); refine goesL_ (some 15) rfl rfl Try.func122 (by kernel_rfl) rfl #[.slice Ao48 t411.length co48, .int .i64 (wrap64 (t416 - 4)), .int .i64 (wrap64 (t419 - 4))] rfl zm ?_; (with_reducible refine (spec_l02Move.calls k _ _ t411 (wrap64 (t416 - 4)) (wrap64 (t419 - 4)) t422 _ ?side1 ?side2 A5.out).mono ?_); (case side1 => exact zc HO413.out); (case side2 => exact (Kd.R_reads' HO413.out).2.1); rintro e w49 ⟨v423, rfl, ho0, hb⟩; refine ⟨_, rfl, ?_⟩; have n0_ := aM (Kd.R_elder' (mR_ HO413.out) (Kd.R_base ho0) hb); have n1_ := aM (Kd.R_lower (Kd.R_new' ho0 (Kd.R_lt (mR_ HO413.out))) (keep_size (w := w) (g := g) (row := none) (zK HK.out))); have n2_ := aM (IsS98.below (zI98 HI0.out) hb); have n3_ := aM (KeepBut.trans (zK HK.out) (KeepBut.of_below hb g none) (.inl rfl)); have n4_ := aM (below_step (zs (IsS98.ge HI0.out)) hb); clear HO413 HI0 HK HB; have HO413 := n0_; have HO424 := n1_; have HI0 := n2_; have HK := n3_; have HB := n4_; clear n0_ n1_ n2_ n3_ n4_; (try clear hb); (try clear hb2); (try clear hk); (try clear hi); (try clear ho0); obtain ⟨Ao50, co50, eo50⟩ := Kd.R_slice HO424.out; subst eo50) | ((with_reducible refine gate_callee (f := 71) rfl ?_); refine goesL_ (some 19) rfl rfl Try.func71 (by kernel_rfl) rfl #[.pointer (some ⟨g, 0, none⟩), .int .i64 (t422.length : Int)] rfl zm ?_; (with_reducible refine (spec_l01Next.calls g s0_0 t420 t421 (t422.length : Int) t425 t426 t427 w0 _ ?side1 ?side2 A6.out).mono ?_); (case side1 => exact zI98 HI0.out); (case side2 => exact zs (IsS98.ge HI0.out)); rintro e w51 ⟨rfl, hi, hb, hk⟩; refine ⟨_, rfl, ?_⟩; have n0_ := aM (Kd.R_mono (Kd.R_keep (IsS98.apart (show IsS98 w0 _ g s0_0 t420 t421 from zI98 HI0.out) (mR_ HO413.out) (by decide)) hk (fun _ h => h.2)) (fun _ h => h.1)); have n1_ := aM (Kd.R_mono (Kd.R_keep (IsS98.apart (show IsS98 w0 _ g s0_0 t420 t421 from zI98 HI0.out) (mR_ HO424.out) (by decide)) hk (fun _ h => h.2)) (fun _ h => h.1)); have n2_ := aM (KeepBut.trans (zK HK.out) hk (.inl rfl)); have n3_ := aM (hb); have n4_ := aM (hi); clear HO413 HO424 HK HB HI0; have HO413 := n0_; have HO424 := n1_; have HK := n2_; have HB := n3_; have HI0 := n4_; clear n0_ n1_ n2_ n3_ n4_; (try clear hb); (try clear hb2); (try clear hk); (try clear hi)) | ((with_reducible refine gate_callee (f := 71) rfl ?_); refine goesL_ (some 21) rfl rfl Try.func71 (by kernel_rfl) rfl #[.pointer (some ⟨g, 0, none⟩), .int .i64 24] rfl zm ?_; (with_reducible refine (spec_l01Next.calls g s0_0 t426 t427 24 t428 t429 t430 w0 _ ?side1 ?side2 A7.out).mono ?_); (case side1 => exact zI98 HI0.out); (case side2 => exact zs (IsS98.ge HI0.out)); rintro e w52 ⟨rfl, hi, hb, hk⟩; refine ⟨_, rfl, ?_⟩; have n0_ := aM (Kd.R_mono (Kd.R_keep (IsS98.apart (show IsS98 w0 _ g s0_0 t426 t427 from zI98 HI0.out) (mR_ HO413.out) (by decide)) hk (fun _ h => h.2)) (fun _ h => h.1)); have n1_ := aM (Kd.R_mono (Kd.R_keep (IsS98.apart (show IsS98 w0 _ g s0_0 t426 t427 from zI98 HI0.out) (mR_ HO424.out) (by decide)) hk (fun _ h => h.2)) (fun _ h => h.1)); have n2_ := aM (KeepBut.trans (zK HK.out) hk (.inl rfl)); have n3_ := aM (hb); have n4_ := aM (hi); clear HO413 HO424 HK HB HI0; have HO413 := n0_; have HO424 := n1_; have HK := n2_; have HB := n3_; have HI0 := n4_; clear n0_ n1_ n2_ n3_ n4_; (try clear hb); (try clear hb2); (try clear hk); (try clear hi)))
  go_ret
  exact ⟨_, zw, by first | exact Kd.R_nil _ _ _ _ _ | exact Kd.N_nil _ _ _ _ _ | exact Kd.V_nil _ _ _ _ _ | exact Kd.Q_nil _ _ _ _ _ | exact Kd.S_nil _ _ _ _ _, zI98 HI0.out, zs (IsS98.ge HI0.out), zK HK.out⟩
 rw [if_neg c44] at H
 have c44b0 : (t428 == 2) = false := beq_eq_false_iff_ne.mpr c44
 have c44b1 : (t428 != 2) = true := bne_iff_ne.mpr c44
 by_cases c53 : t428 = 3
 ·rw [if_pos c53] at H
  have c53b0 : (t428 == 3) = true := beq_iff_eq.mpr c53
  have c53b1 : (t428 != 3) = false := bne_eq_false_iff_eq.mpr c53
  clear c53
  obtain ⟨y446, hy446⟩ : ∃ y_ : List (S59), y_ = (([] : List (S59))) := ⟨_, rfl⟩
  replace H : (spec_l02Draw.l0 k y446 0 s0_0 t429 t430) = some (r1, r2, r3) := zy H hy446
  have Ny446 := aM hy446
  clear hy446
  have H' := aM H
  clear H
  go_enter Try.func103, Try.ntmps103
  go_wp2_with (first | ((with_reducible refine gate_callee (f := 118) rfl ?_); refine goesL_ (some 8) rfl rfl Try.func118 (by kernel_rfl) rfl #[.pointer (some ⟨g, 0, none⟩), .int .i64 8] rfl zm ?_; (with_reducible refine (spec_l02DrawPoly.calls k g s0_0 s0_1 s0_2 8 t411 t414 t415 w0 _ ?side1 ?side2 A2.out).mono ?_); (case side1 => exact zI98 HI0.out); (case side2 => exact zs (IsS98.ge HI0.out)); rintro e w54 ⟨v412, rfl, ho0, hi, hb, hk⟩; refine ⟨_, rfl, ?_⟩; have n0_ := aM (Kd.R_lower ho0 (keep_size (w := w) (g := g) (row := none) (zK HK.out))); have n1_ := aM (KeepBut.trans (zK HK.out) hk (.inl rfl)); have n2_ := aM (hb); have n3_ := aM (hi); clear HK HB HI0; have HO413 := n0_; have HK := n1_; have HB := n2_; have HI0 := n3_; clear n0_ n1_ n2_ n3_; (try clear hb); (try clear hb2); (try clear hk); (try clear hi); (try clear ho0)) | ((with_reducible refine gate_callee (f := 71) rfl ?_); refine goesL_ (some 10) rfl rfl Try.func71 (by kernel_rfl) rfl #[.pointer (some ⟨g, 0, none⟩), .int .i64 9] rfl zm ?_; (with_reducible refine (spec_l01Next.calls g s0_0 t414 t415 9 t416 t417 t418 w0 _ ?side1 ?side2 A3.out).mono ?_); (case side1 => exact zI98 HI0.out); (case side2 => exact zs (IsS98.ge HI0.out)); rintro e w55 ⟨rfl, hi, hb, hk⟩; refine ⟨_, rfl, ?_⟩; have n0_ := aM (Kd.R_mono (Kd.R_keep (IsS98.apart (show IsS98 w0 _ g s0_0 t414 t415 from zI98 HI0.out) (mR_ HO413.out) (by decide)) hk (fun _ h => h.2)) (fun _ h => h.1)); have n1_ := aM (KeepBut.trans (zK HK.out) hk (.inl rfl)); have n2_ := aM (hb); have n3_ := aM (hi); clear HO413 HK HB HI0; have HO413 := n0_; have HK := n1_; have HB := n2_; have HI0 := n3_; clear n0_ n1_ n2_ n3_; (try clear hb); (try clear hb2); (try clear hk); (try clear hi)) | ((with_reducible refine gate_callee (f := 71) rfl ?_); refine goesL_ (some 13) rfl rfl Try.func71 (by kernel_rfl) rfl #[.pointer (some ⟨g, 0, none⟩), .int .i64 9] rfl zm ?_; (with_reducible refine (spec_l01Next.calls g s0_0 t417 t418 9 t419 t420 t421 w0 _ ?side1 ?side2 A4.out).mono ?_); (case side1 => exact zI98 HI0.out); (case side2 => exact zs (IsS98.ge HI0.out)); rintro e w56 ⟨rfl, hi, hb, hk⟩; refine ⟨_, rfl, ?_⟩; have n0_ := aM (Kd.R_mono (Kd.R_keep (IsS98.apart (show IsS98 w0 _ g s0_0 t417 t418 from zI98 HI0.out) (mR_ HO413.out) (by decide)) hk (fun _ h => h.2)) (fun _ h => h.1)); have n1_ := aM (KeepBut.trans (zK HK.out) hk (.inl rfl)); have n2_ := aM (hb); have n3_ := aM (hi); clear HO413 HK HB HI0; have HO413 := n0_; have HK := n1_; have HB := n2_; have HI0 := n3_; clear n0_ n1_ n2_ n3_; (try clear hb); (try clear hb2); (try clear hk); (try clear hi); obtain ⟨Ao57, co57, eo57⟩ := Kd.R_slice HO413.out; subst eo57) | ((with_reducible refine gate_callee (f := 122) rfl ?_); refine goesL_ (some 15) rfl rfl Try.func122 (by kernel_rfl) rfl #[.slice Ao57 t411.length co57, .int .i64 (wrap64 (t416 - 4)), .int .i64 (wrap64 (t419 - 4))] rfl zm ?_; (with_reducible refine (spec_l02Move.calls k _ _ t411 (wrap64 (t416 - 4)) (wrap64 (t419 - 4)) t422 _ ?side1 ?side2 A5.out).mono ?_); (case side1 => exact zc HO413.out); (case side2 => exact (Kd.R_reads' HO413.out).2.1); rintro e w58 ⟨v423, rfl, ho0, hb⟩; refine ⟨_, rfl, ?_⟩; have n0_ := aM (Kd.R_elder' (mR_ HO413.out) (Kd.R_base ho0) hb); have n1_ := aM (Kd.R_lower (Kd.R_new' ho0 (Kd.R_lt (mR_ HO413.out))) (keep_size (w := w) (g := g) (row := none) (zK HK.out))); have n2_ := aM (IsS98.below (zI98 HI0.out) hb); have n3_ := aM (KeepBut.trans (zK HK.out) (KeepBut.of_below hb g none) (.inl rfl)); have n4_ := aM (below_step (zs (IsS98.ge HI0.out)) hb); clear HO413 HI0 HK HB; have HO413 := n0_; have HO424 := n1_; have HI0 := n2_; have HK := n3_; have HB := n4_; clear n0_ n1_ n2_ n3_ n4_; (try clear hb); (try clear hb2); (try clear hk); (try clear hi); (try clear ho0); obtain ⟨Ao59, co59, eo59⟩ := Kd.R_slice HO424.out; subst eo59) | ((with_reducible refine gate_callee (f := 71) rfl ?_); refine goesL_ (some 19) rfl rfl Try.func71 (by kernel_rfl) rfl #[.pointer (some ⟨g, 0, none⟩), .int .i64 (t422.length : Int)] rfl zm ?_; (with_reducible refine (spec_l01Next.calls g s0_0 t420 t421 (t422.length : Int) t425 t426 t427 w0 _ ?side1 ?side2 A6.out).mono ?_); (case side1 => exact zI98 HI0.out); (case side2 => exact zs (IsS98.ge HI0.out)); rintro e w60 ⟨rfl, hi, hb, hk⟩; refine ⟨_, rfl, ?_⟩; have n0_ := aM (Kd.R_mono (Kd.R_keep (IsS98.apart (show IsS98 w0 _ g s0_0 t420 t421 from zI98 HI0.out) (mR_ HO413.out) (by decide)) hk (fun _ h => h.2)) (fun _ h => h.1)); have n1_ := aM (Kd.R_mono (Kd.R_keep (IsS98.apart (show IsS98 w0 _ g s0_0 t420 t421 from zI98 HI0.out) (mR_ HO424.out) (by decide)) hk (fun _ h => h.2)) (fun _ h => h.1)); have n2_ := aM (KeepBut.trans (zK HK.out) hk (.inl rfl)); have n3_ := aM (hb); have n4_ := aM (hi); clear HO413 HO424 HK HB HI0; have HO413 := n0_; have HO424 := n1_; have HK := n2_; have HB := n3_; have HI0 := n4_; clear n0_ n1_ n2_ n3_ n4_; (try clear hb); (try clear hb2); (try clear hk); (try clear hi)) | ((with_reducible refine gate_callee (f := 71) rfl ?_); refine goesL_ (some 21) rfl rfl Try.func71 (by kernel_rfl) rfl #[.pointer (some ⟨g, 0, none⟩), .int .i64 24] rfl zm ?_; (with_reducible refine (spec_l01Next.calls g s0_0 t426 t427 24 t428 t429 t430 w0 _ ?side1 ?side2 A7.out).mono ?_); (case side1 => exact zI98 HI0.out); (case side2 => exact zs (IsS98.ge HI0.out)); rintro e w61 ⟨rfl, hi, hb, hk⟩; refine ⟨_, rfl, ?_⟩; have n0_ := aM (Kd.R_mono (Kd.R_keep (IsS98.apart (show IsS98 w0 _ g s0_0 t426 t427 from zI98 HI0.out) (mR_ HO413.out) (by decide)) hk (fun _ h => h.2)) (fun _ h => h.1)); have n1_ := aM (Kd.R_mono (Kd.R_keep (IsS98.apart (show IsS98 w0 _ g s0_0 t426 t427 from zI98 HI0.out) (mR_ HO424.out) (by decide)) hk (fun _ h => h.2)) (fun _ h => h.1)); have n2_ := aM (KeepBut.trans (zK HK.out) hk (.inl rfl)); have n3_ := aM (hb); have n4_ := aM (hi); clear HO413 HO424 HK HB HI0; have HO413 := n0_; have HO424 := n1_; have HK := n2_; have HB := n3_; have HI0 := n4_; clear n0_ n1_ n2_ n3_ n4_; (try clear hb); (try clear hb2); (try clear hk); (try clear hi)) | ((with_reducible refine gate_dst (N := 48) rfl ?_); refine Kd.R_lit k59 _ 59 ?hg (N := 48) ?hd (xs := ([] : List (S59))) (inner := []) (ok := fun _ => True) (okp := fun _ => True) ?hr ?hp (fun _ hk => hk) trivial (Below.refl _ _) (Nat.le_refl _) (by simp) ?_; (case hd => rfl); (case hg => rfl); (case hr => first | (go_simp; done) | (go_simp; rfl)); (case hp => exact (Reps.none _ _)); intro v447 w62 ho63 hb hg_ hnew_; clear hg_ hnew_; (first | rw [← Ny446.out] at ho63 | (simp only [Int.reduceToNat] at ho63; rw [← Ny446.out] at ho63)); have n0_ := aM (Kd.R_elder' (mR_ HO413.out) (Kd.R_base ho63) hb); have n1_ := aM (Kd.R_elder' (mR_ HO424.out) (Kd.R_base ho63) hb); have n2_ := aM (Kd.R_lower (Kd.R_new' (Kd.R_new' ho63 (Kd.R_lt (mR_ HO413.out))) (Kd.R_lt (mR_ HO424.out))) (keep_size (w := w) (g := g) (row := none) (zK HK.out))); have n3_ := aM (IsS98.below (zI98 HI0.out) hb); have n4_ := aM (KeepBut.trans (zK HK.out) (KeepBut.of_below hb g none) (.inl rfl)); have n5_ := aM (below_step (zs (IsS98.ge HI0.out)) hb); clear HO413 HO424 HI0 HK HB; have HO413 := n0_; have HO424 := n1_; have HO448 := n2_; have HI0 := n3_; have HK := n4_; have HB := n5_; clear n0_ n1_ n2_ n3_ n4_ n5_; clear hb ho63))
  go_loopg [5, 6] k (fun kq v5 v6 w' => ∃ (x5_1 : List (S59)) (x6_1 : Int) (x1001_1 : Int) (x1002_1 : Int), v6 = .int .i64 x6_1 ∧ Aside0 (spec_l02Draw.l0 kq x5_1 x6_1 s0_0 x1001_1 x1002_1 = some (r1, r2, r3)) ∧ Aside0 (kq ≤ k) ∧ Aside0 (Kd.R k59 59 w' w.heap.size (fun _ => True) v5 x5_1) ∧ Aside0 (IsS98 w0 w' g s0_0 x1001_1 x1002_1) ∧ Aside0 (KeepBut w w' g none) ∧ Aside0 (Below w0.heap.size w0 w'))
  case atStart => exact ⟨(y446), (0), (t429), (t430), zr, H', ⟨Nat.le_refl _⟩, ⟨zd0 HO448.out⟩, ⟨zI98 HI0.out⟩, ⟨zK HK.out⟩, ⟨zs (IsS98.ge HI0.out)⟩⟩
  case round =>
   clear H'
   try clear c1
   try clear p1
   try clear q1
   try clear hx1
   try clear hf1
   try clear c2
   try clear p2
   try clear hx2
   try clear hf2
   try clear c3
   try clear c4
   try clear p4
   try clear q4
   try clear hx4
   try clear c5
   try clear p6
   try clear c7
   try clear c8
   try clear c8b0
   try clear c8b1
   try clear c10
   try clear c10b0
   try clear c11
   try clear c11b0
   try clear c12
   try clear c12b0
   try clear c13
   try clear c13b0
   try clear c14
   try clear p14
   try clear q14
   try clear hx14
   try clear hf14
   try clear c28
   try clear hx28
   try clear hf28
   try clear c31
   try clear c31b0
   try clear c31b1
   try clear c32
   try clear c32b0
   try clear c33
   try clear c33b0
   try clear c34
   try clear p43
   try clear q43
   try clear hx43
   try clear c44
   try clear c44b0
   try clear c44b1
   try clear p44
   try clear q44
   try clear hx44
   try clear c53
   try clear c53b0
   try clear c53b1
   try clear c55
   try clear hx14_0
   try clear hx14_1
   try clear hx28_0
   try clear hx437_0
   try clear hx442_0
   try clear hx442_1
   try clear p14
   try clear p437
   try clear p442
   try clear q14
   try clear q437
   try clear q442
   obtain ⟨x5_1, x6_1, x1001_1, x1002_1, rfl, HA, HK1, HO_5, HI0, HK, HB⟩ := hrel
   cases gk with
   | zero => exact absurd HA.out (by simp [spec_l02Draw.l0])
   | succ k1 =>
    have H := HA.out
    clear HA
    simp only [spec_l02Draw.l0] at H
    replace H := Option.bind_eq_some_iff.mp H
    obtain ⟨⟨t449, t450, t451⟩, A640, H⟩ := H
    replace H : (if x6_1 < (wrap64 (40 + t449)) then (if x5_1.length < 8796093022208 then (spec_l02Draw.l0 k1 (x5_1 ++ [(⟨x6_1, 0⟩ : S59)]) (wrap64 (x6_1 + 1)) s0_0 t450 t451) else (none)) else (some (x5_1, t450, t451))) = some (r1, r2, r3) := H
    have A64 := aM A640
    clear A640
    by_cases c65 : x6_1 < (wrap64 (40 + t449))
    rotate_left
    ·rw [if_neg c65] at H
     have c65b0 : decide (x6_1 < (wrap64 (40 + t449))) = false := decide_eq_false c65
     clear c65
     simp only [Option.some.injEq, Prod.mk.injEq] at H
     obtain ⟨rfl, rfl, rfl⟩ := H
     go_wp2_with (first | ((with_reducible refine gate_callee (f := 71) rfl ?_); refine goesL_ (some 51) rfl rfl Try.func71 (by kernel_rfl) rfl #[.pointer (some ⟨g, 0, none⟩), .int .i64 2] rfl zm ?_; (with_reducible refine (spec_l01Next.calls g s0_0 x1001_1 x1002_1 2 t449 t450 t451 w0 _ ?side1 ?side2 A64.out).mono ?_); (case side1 => exact zI98 HI0.out); (case side2 => exact zs (IsS98.ge HI0.out)); rintro e w69 ⟨rfl, hi, hb, hk⟩; refine ⟨_, rfl, ?_⟩; have n0_ := aM (Kd.R_mono (Kd.R_keep (IsS98.apart (show IsS98 w0 _ g s0_0 x1001_1 x1002_1 from zI98 HI0.out) (mR_ HO_5.out) (by decide)) hk (fun _ h => h.2)) (fun _ h => h.1)); have n1_ := aM (KeepBut.trans (zK HK.out) hk (.inl rfl)); have n2_ := aM (hb); have n3_ := aM (hi); clear HO_5 HK HB HI0; have HO_5 := n0_; have HK := n1_; have HB := n2_; have HI0 := n3_; clear n0_ n1_ n2_ n3_; (try clear hb); (try clear hb2); (try clear hk); (try clear hi)))
     go_ret
     exact ⟨_, zw, mR_ HO_5.out, zI98 HI0.out, zs (IsS98.ge HI0.out), zK HK.out⟩
    rw [if_pos c65] at H
    have c65b0 : decide (x6_1 < (wrap64 (40 + t449))) = true := decide_eq_true c65
    clear c65
    by_cases c66 : x5_1.length < 8796093022208
    rotate_left
    ·rw [if_neg c66] at H
     exact absurd H (by simp)
    rw [if_pos c66] at H
    have LMc66 := aM c66
    clear c66
    obtain ⟨y452, hy452⟩ : ∃ y_ : List (S59), y_ = (x5_1 ++ [(⟨x6_1, 0⟩ : S59)]) := ⟨_, rfl⟩
    replace H : (spec_l02Draw.l0 k1 y452 (wrap64 (x6_1 + 1)) s0_0 t450 t451) = some (r1, r2, r3) := zy H hy452
    have Ny452 := aM hy452
    clear hy452
    have H' := aM H
    clear H
    go_wp2_with (first | ((with_reducible refine gate_callee (f := 71) rfl ?_); refine goesL_ (some 51) rfl rfl Try.func71 (by kernel_rfl) rfl #[.pointer (some ⟨g, 0, none⟩), .int .i64 2] rfl zm ?_; (with_reducible refine (spec_l01Next.calls g s0_0 x1001_1 x1002_1 2 t449 t450 t451 w0 _ ?side1 ?side2 A64.out).mono ?_); (case side1 => exact zI98 HI0.out); (case side2 => exact zs (IsS98.ge HI0.out)); rintro e w67 ⟨rfl, hi, hb, hk⟩; refine ⟨_, rfl, ?_⟩; have n0_ := aM (Kd.R_mono (Kd.R_keep (IsS98.apart (show IsS98 w0 _ g s0_0 x1001_1 x1002_1 from zI98 HI0.out) (mR_ HO_5.out) (by decide)) hk (fun _ h => h.2)) (fun _ h => h.1)); have n1_ := aM (KeepBut.trans (zK HK.out) hk (.inl rfl)); have n2_ := aM (hb); have n3_ := aM (hi); clear HO_5 HK HB HI0; have HO_5 := n0_; have HK := n1_; have HB := n2_; have HI0 := n3_; clear n0_ n1_ n2_ n3_; (try clear hb); (try clear hb2); (try clear hk); (try clear hi)) | ((with_reducible refine gate_builtin (b := .append) (xs := #[.tmp 56, .tmp 59]) rfl ?_); at_builtin; refine Kd.R_append k59 w.heap.size rfl (.tmp 56) (.tmp 59) 24 59 (.agg #[(.int .i64 0), (.int .i64 0)]) 16 rfl Try.underlying24 info59 rfl (by decide) (by omega) u5 x5_1 (⟨x6_1, 0⟩ : S59) [.int .i64 x6_1, .int .i64 0] (fun _ => True) (fun _ => False) rfl rfl ?aP (fun _ hk => hk.elim) ?aF ?aO (Below.refl _ _) ?aS ?aL ?_; (case aP => exact k59_mkM _ _ _ (⟨x6_1, 0⟩ : S59)); (case aF => exact (fun _ _ => trivial)); (case aO => exact (mR_ HO_5.out)); (case aS => exact (keep_size (w := w) (g := g) (row := none) (zK HK.out))); (case aL => have := LMc66.out; omega); intro v453 w68 ho hb hg hat; rw [← Ny452.out] at ho; have n0_ := aM (IsS98.grown (zI98 HI0.out) hg (IsS98.own_ne HI0.out HO_5.out (by decide))); have n1_ := aM (below_weaken (zs (IsS98.ge HI0.out)) HL.out hb); have n2_ := aM (KeepBut.trans (zK HK.out) (KeepBut.of_grown hg g) (Kd.R_base2 HO_5.out)); have n3_ := aM (ho); clear HI0 HB HK HO_5; have HI0 := n0_; have HB := n1_; have HK := n2_; have HO454 := n3_; clear n0_ n1_ n2_ n3_; clear ho hb hg hat))
    go_roundg k1
    case measure => have := HK1.out; omega
    case rel => exact ⟨(y452), (wrap64 (x6_1 + 1)), (t450), (t451), zr, H', ⟨by have := HK1.out; omega⟩, ⟨mR_ HO454.out⟩, ⟨zI98 HI0.out⟩, ⟨zK HK.out⟩, ⟨zs (IsS98.ge HI0.out)⟩⟩
 rw [if_neg c53] at H
 have c53b0 : (t428 == 3) = false := beq_eq_false_iff_ne.mpr c53
 have c53b1 : (t428 != 3) = true := bne_iff_ne.mpr c53
 by_cases c70 : t428 = 4
 ·rw [if_pos c70] at H
  have c70b0 : (t428 == 4) = true := beq_iff_eq.mpr c70
  have c70b1 : (t428 != 4) = false := bne_eq_false_iff_eq.mpr c70
  clear c70
  by_cases c71 : 0 < (t422.length : Int)
  rotate_left
  ·rw [if_neg c71] at H
   exact absurd H (by simp)
  rw [if_pos c71] at H
  have c71b0 : decide (0 < (t422.length : Int)) = true := decide_eq_true c71
  have c71b1 : decide (0 < t422.length) = true := decide_eq_true (by omega)
  clear c71
  obtain ⟨ji72, hji72⟩ : ∃ j_ : Int, (wrap64 ((t422.length : Int) - 1)) = j_ := ⟨_, rfl⟩
  replace H : (if 0 ≤ (ji72) then (if (ji72) < (t422.length : Int) then (if t422.length < 8796093022208 then (some ((t422 ++ [(⟨wrap64 (((rd_T59 t422 0).f0) + 3), wrap64 (((rd_T59 t422 (ji72)).f1) + 2)⟩ : S59)]), t429, t430)) else (none)) else (none)) else (none)) = some (r1, r2, r3) := by first | (rw [hji72] at H; exact H) | (simp only [hji72] at H ⊢; exact H)
  (try rw [hji72] at A2)
  (try rw [hji72] at A3)
  (try rw [hji72] at A4)
  (try rw [hji72] at A5)
  (try rw [hji72] at A6)
  (try rw [hji72] at A7)
  have hji72w : (IntKind.i64.wrap ((t422.length : Int) - 1)) = ji72 := (i64_w _).trans hji72
  by_cases c73 : 0 ≤ (ji72)
  rotate_left
  ·rw [if_neg c73] at H
   exact absurd H (by simp)
  rw [if_pos c73] at H
  have c73b0 : decide (0 ≤ (ji72)) = true := decide_eq_true c73
  clear c73
  by_cases c74 : (ji72) < (t422.length : Int)
  rotate_left
  ·rw [if_neg c74] at H
   exact absurd H (by simp)
  rw [if_pos c74] at H
  have c74b0 : decide ((ji72) < (t422.length : Int)) = true := decide_eq_true c74
  clear c74
  by_cases c75 : t422.length < 8796093022208
  rotate_left
  ·rw [if_neg c75] at H
   exact absurd H (by simp)
  rw [if_pos c75] at H
  have LMc75 := aM c75
  clear c75
  obtain ⟨y457, hy457⟩ : ∃ y_ : List (S59), y_ = (t422 ++ [(⟨wrap64 (((rd_T59 t422 0).f0) + 3), wrap64 (((rd_T59 t422 (ji72)).f1) + 2)⟩ : S59)]) := ⟨_, rfl⟩
  replace H : (some (y457, t429, t430)) = some (r1, r2, r3) := zy H hy457
  have Ny457 := aM hy457
  clear hy457
  simp only [Option.some.injEq, Prod.mk.injEq] at H
  obtain ⟨rfl, rfl, rfl⟩ := H
  go_enter Try.func103, Try.ntmps103
  try go_wp2_with (first | ((with_reducible refine gate_callee (f := 118) rfl ?_); refine goesL_ (some 8) rfl rfl Try.func118 (by kernel_rfl) rfl #[.pointer (some ⟨g, 0, none⟩), .int .i64 8] rfl zm ?_; (with_reducible refine (spec_l02DrawPoly.calls k g s0_0 s0_1 s0_2 8 t411 t414 t415 w0 _ ?side1 ?side2 A2.out).mono ?_); (case side1 => exact zI98 HI0.out); (case side2 => exact zs (IsS98.ge HI0.out)); rintro e w76 ⟨v412, rfl, ho0, hi, hb, hk⟩; refine ⟨_, rfl, ?_⟩; have n0_ := aM (Kd.R_lower ho0 (keep_size (w := w) (g := g) (row := none) (zK HK.out))); have n1_ := aM (KeepBut.trans (zK HK.out) hk (.inl rfl)); have n2_ := aM (hb); have n3_ := aM (hi); clear HK HB HI0; have HO413 := n0_; have HK := n1_; have HB := n2_; have HI0 := n3_; clear n0_ n1_ n2_ n3_; (try clear hb); (try clear hb2); (try clear hk); (try clear hi); (try clear ho0)) | ((with_reducible refine gate_callee (f := 71) rfl ?_); refine goesL_ (some 10) rfl rfl Try.func71 (by kernel_rfl) rfl #[.pointer (some ⟨g, 0, none⟩), .int .i64 9] rfl zm ?_; (with_reducible refine (spec_l01Next.calls g s0_0 t414 t415 9 t416 t417 t418 w0 _ ?side1 ?side2 A3.out).mono ?_); (case side1 => exact zI98 HI0.out); (case side2 => exact zs (IsS98.ge HI0.out)); rintro e w77 ⟨rfl, hi, hb, hk⟩; refine ⟨_, rfl, ?_⟩; have n0_ := aM (Kd.R_mono (Kd.R_keep (IsS98.apart (show IsS98 w0 _ g s0_0 t414 t415 from zI98 HI0.out) (mR_ HO413.out) (by decide)) hk (fun _ h => h.2)) (fun _ h => h.1)); have n1_ := aM (KeepBut.trans (zK HK.out) hk (.inl rfl)); have n2_ := aM (hb); have n3_ := aM (hi); clear HO413 HK HB HI0; have HO413 := n0_; have HK := n1_; have HB := n2_; have HI0 := n3_; clear n0_ n1_ n2_ n3_; (try clear hb); (try clear hb2); (try clear hk); (try clear hi)) | ((with_reducible refine gate_callee (f := 71) rfl ?_); refine goesL_ (some 13) rfl rfl Try.func71 (by kernel_rfl) rfl #[.pointer (some ⟨g, 0, none⟩), .int .i64 9] rfl zm ?_; (with_reducible refine (spec_l01Next.calls g s0_0 t417 t418 9 t419 t420 t421 w0 _ ?side1 ?side2 A4.out).mono ?_); (case side1 => exact zI98 HI0.out); (case side2 => exact zs (IsS98.ge HI0.out)); rintro e w78 ⟨rfl, hi, hb, hk⟩; refine ⟨_, rfl, ?_⟩; have n0_ := aM (Kd.R_mono (Kd.R_keep (IsS98.apart (show IsS98 w0 _ g s0_0 t417 t418 from zI98 HI0.out) (mR_ HO413.out) (by decide)) hk (fun _ h => h.2)) (fun _ h => h.1)); have n1_ := aM (KeepBut.trans (zK HK.out) hk (.inl rfl)); have n2_ := aM (hb); have n3_ := aM (hi); clear HO413 HK HB HI0; have HO413 := n0_; have HK := n1_; have HB := n2_; have HI0 := n3_; clear n0_ n1_ n2_ n3_; (try clear hb); (try clear hb2); (try clear hk); (try clear hi); obtain ⟨Ao79, co79, eo79⟩ := Kd.R_slice HO413.out; subst eo79) | ((with_reducible refine gate_callee (f := 122) rfl ?_); refine goesL_ (some 15) rfl rfl Try.func122 (by kernel_rfl) rfl #[.slice Ao79 t411.length co79, .int .i64 (wrap64 (t416 - 4)), .int .i64 (wrap64 (t419 - 4))] rfl zm ?_; (with_reducible refine (spec_l02Move.calls k _ _ t411 (wrap64 (t416 - 4)) (wrap64 (t419 - 4)) t422 _ ?side1 ?side2 A5.out).mono ?_); (case side1 => exact zc HO413.out); (case side2 => exact (Kd.R_reads' HO413.out).2.1); rintro e w80 ⟨v423, rfl, ho0, hb⟩; refine ⟨_, rfl, ?_⟩; have n0_ := aM (Kd.R_elder' (mR_ HO413.out) (Kd.R_base ho0) hb); have n1_ := aM (Kd.R_lower (Kd.R_new' ho0 (Kd.R_lt (mR_ HO413.out))) (keep_size (w := w) (g := g) (row := none) (zK HK.out))); have n2_ := aM (IsS98.below (zI98 HI0.out) hb); have n3_ := aM (KeepBut.trans (zK HK.out) (KeepBut.of_below hb g none) (.inl rfl)); have n4_ := aM (below_step (zs (IsS98.ge HI0.out)) hb); clear HO413 HI0 HK HB; have HO413 := n0_; have HO424 := n1_; have HI0 := n2_; have HK := n3_; have HB := n4_; clear n0_ n1_ n2_ n3_ n4_; (try clear hb); (try clear hb2); (try clear hk); (try clear hi); (try clear ho0); obtain ⟨Ao81, co81, eo81⟩ := Kd.R_slice HO424.out; subst eo81) | ((with_reducible refine gate_callee (f := 71) rfl ?_); refine goesL_ (some 19) rfl rfl Try.func71 (by kernel_rfl) rfl #[.pointer (some ⟨g, 0, none⟩), .int .i64 (t422.length : Int)] rfl zm ?_; (with_reducible refine (spec_l01Next.calls g s0_0 t420 t421 (t422.length : Int) t425 t426 t427 w0 _ ?side1 ?side2 A6.out).mono ?_); (case side1 => exact zI98 HI0.out); (case side2 => exact zs (IsS98.ge HI0.out)); rintro e w82 ⟨rfl, hi, hb, hk⟩; refine ⟨_, rfl, ?_⟩; have n0_ := aM (Kd.R_mono (Kd.R_keep (IsS98.apart (show IsS98 w0 _ g s0_0 t420 t421 from zI98 HI0.out) (mR_ HO413.out) (by decide)) hk (fun _ h => h.2)) (fun _ h => h.1)); have n1_ := aM (Kd.R_mono (Kd.R_keep (IsS98.apart (show IsS98 w0 _ g s0_0 t420 t421 from zI98 HI0.out) (mR_ HO424.out) (by decide)) hk (fun _ h => h.2)) (fun _ h => h.1)); have n2_ := aM (KeepBut.trans (zK HK.out) hk (.inl rfl)); have n3_ := aM (hb); have n4_ := aM (hi); clear HO413 HO424 HK HB HI0; have HO413 := n0_; have HO424 := n1_; have HK := n2_; have HB := n3_; have HI0 := n4_; clear n0_ n1_ n2_ n3_ n4_; (try clear hb); (try clear hb2); (try clear hk); (try clear hi)) | ((with_reducible refine gate_callee (f := 71) rfl ?_); refine goesL_ (some 21) rfl rfl Try.func71 (by kernel_rfl) rfl #[.pointer (some ⟨g, 0, none⟩), .int .i64 24] rfl zm ?_; (with_reducible refine (spec_l01Next.calls g s0_0 t426 t427 24 t428 t429 t430 w0 _ ?side1 ?side2 A7.out).mono ?_); (case side1 => exact zI98 HI0.out); (case side2 => exact zs (IsS98.ge HI0.out)); rintro e w83 ⟨rfl, hi, hb, hk⟩; refine ⟨_, rfl, ?_⟩; have n0_ := aM (Kd.R_mono (Kd.R_keep (IsS98.apart (show IsS98 w0 _ g s0_0 t426 t427 from zI98 HI0.out) (mR_ HO413.out) (by decide)) hk (fun _ h => h.2)) (fun _ h => h.1)); have n1_ := aM (Kd.R_mono (Kd.R_keep (IsS98.apart (show IsS98 w0 _ g s0_0 t426 t427 from zI98 HI0.out) (mR_ HO424.out) (by decide)) hk (fun _ h => h.2)) (fun _ h => h.1)); have n2_ := aM (KeepBut.trans (zK HK.out) hk (.inl rfl)); have n3_ := aM (hb); have n4_ := aM (hi); clear HO413 HO424 HK HB HI0; have HO413 := n0_; have HO424 := n1_; have HK := n2_; have HB := n3_; have HI0 := n4_; clear n0_ n1_ n2_ n3_ n4_; (try clear hb); (try clear hb2); (try clear hk); (try clear hi)))
  have n0_ := aM (Kd.R_drew HO413.out)
  have n1_ := aM (Kd.R_drew HO424.out)
  have n2_ := aM (IsS98.drew HI0.out)
  have n3_ := aM (keep_drew HK.out)
  have n4_ := aM (below_drew1 HB.out)
  clear HO413
  clear HO424
  clear HI0
  clear HK
  clear HB
  have HO413 := n0_
  have HO424 := n1_
  have HI0 := n2_
  have HK := n3_
  have HB := n4_
  clear n0_ n1_ n2_ n3_ n4_
  have p455 : 0 ≤ (0 : Int) := (by omega)
  have q455 : 0 < (t422.length : Int) := of_decide_eq_true za
  obtain ⟨ad455, e455, hx455_0, hx455_1⟩ := at_T59 (Kd.R_reads' HO424.out).2.2 0 p455 q455
  cases e455
  have qi455 : (0 < t422.length) = True := eq_true (by omega)
  (try rw [show ((0 : Int)).toNat = 0 from rfl] at hx455_0)
  (try rw [show 0 * 2 = 0 from rfl] at hx455_0)
  (try rw [Addr.add_zero'] at hx455_0)
  (try rw [show ((0 : Int)).toNat = 0 from rfl] at hx455_1)
  (try rw [show 0 * 2 = 0 from rfl] at hx455_1)
  (try rw [Addr.add_zero'] at hx455_1)
  replace p455 := eq_true p455
  replace q455 := eq_true q455
  have p456 : 0 ≤ ((ji72) : Int) := of_decide_eq_true za
  have q456 : (ji72) < (t422.length : Int) := of_decide_eq_true za
  obtain ⟨ad456, e456, hx456_0, hx456_1⟩ := at_T59 (Kd.R_reads' HO424.out).2.2 (ji72) p456 q456
  obtain rfl : ad455 = ad456 := (by injection e456)
  replace p456 := eq_true p456
  replace q456 := eq_true q456
  refine start_ (n := 18) (S := fun w' => w'.cell? ad455 = some (.int .i64 ((rd_T59 t422 0).f0)) ∧ w'.cell? ⟨ad455.block, ad455.off + 1, none⟩ = some (.int .i64 ((rd_T59 t422 0).f1)) ∧ w'.cell? (ad455.add (((ji72)).toNat * 2)) = some (.int .i64 ((rd_T59 t422 (ji72)).f0)) ∧ w'.cell? ⟨(ad455.add (((ji72)).toNat * 2)).block, (ad455.add (((ji72)).toNat * 2)).off + 1, none⟩ = some (.int .i64 ((rd_T59 t422 (ji72)).f1))) (ds := [15, 16]) zA76 (by kernel_rfl) rfl rfl ⟨hx455_0, hx455_1, hx456_0, hx456_1⟩ (fun hHeld => ?_); refine with_tabW spec_l02Draw.tab20 spec_l02Draw.bits20 (fun HT_ HW_ => ?_)
  generalize w83.drew = w84 at HO413 HO424 HI0 HK HB hx455_0 hx455_1 hx456_0 hx456_1 hHeld ⊢
  refine zp 0 (some 65) ?_ zA77 rfl rfl (Or.inl ⟨by rfl, ?_⟩) ?_ ?_ ?_
  rotate_left
  ·intro w'
   go_simp
   with_reducible rfl
  rotate_left
  ·simp only [Act.put, xA, xB, xC, i64_w, i32_w]
   rfl
  refine zp 1 (some 66) ?_ zA78 rfl rfl (Or.inl ⟨by rfl, ?_⟩) ?_ ?_ ?_
  rotate_left
  ·intro w'
   go_simp
   with_reducible rfl
  rotate_left
  ·simp only [Act.put, xA, xB, xC, i64_w, i32_w]
   rfl
  refine zp 2 (some 67) ?_ zA79 rfl rfl (Or.inl ⟨by rfl, ?_⟩) ?_ ?_ ?_
  rotate_left
  ·intro w'
   go_simp
   with_reducible rfl
  rotate_left
  ·simp only [Act.put, xA, xB, xC, i64_w, i32_w]
   rfl
  refine zp 3 (some 68) ?_ zA80 rfl rfl (Or.inl ⟨by rfl, ?_⟩) ?_ ?_ ?_
  rotate_left
  ·intro w'
   go_simp
   with_reducible rfl
  rotate_left
  ·simp only [Act.put, xA, xB, xC, i64_w, i32_w]
   rfl
  refine zp 6 (some 71) ?_ zA81 rfl rfl (Or.inl ⟨by rfl, ?_⟩) ?_ ?_ ?_
  rotate_left
  ·intro w'
   go_simp
   with_reducible rfl
  rotate_left
  ·simp only [Act.put, xA, xB, xC, i64_w, i32_w]
   rfl
  refine zp 7 (some 72) ?_ zA82 rfl rfl (Or.inl ⟨by rfl, ?_⟩) ?_ ?_ ?_
  rotate_left
  ·intro w'
   go_simp
   with_reducible rfl
  rotate_left
  ·simp only [Act.put, xA, xB, xC, i64_w, i32_w]
   rfl
  refine zp 8 (some 73) ?_ zA83 rfl rfl (Or.inl ⟨by rfl, ?_⟩) ?_ ?_ ?_
  rotate_left
  ·intro w'
   go_simp
   with_reducible rfl
  rotate_left
  ·simp only [Act.put, xA, xB, xC, i64_w, i32_w]
   rfl
  refine zp 9 (some 74) ?_ zA84 rfl rfl (Or.inl ⟨by rfl, ?_⟩) ?_ ?_ ?_
  rotate_left
  ·intro w'
   go_simp
   with_reducible rfl
  rotate_left
  ·simp only [Act.put, xA, xB, xC, i64_w, i32_w]
   rfl
  refine zp 10 (some 75) ?_ zA85 rfl rfl (Or.inl ⟨by rfl, ?_⟩) ?_ ?_ ?_
  rotate_left
  ·intro w'
   go_simp
   with_reducible rfl
  rotate_left
  ·simp only [Act.put, xA, xB, xC, i64_w, i32_w]
   rfl
  refine zp 11 (some 76) ?_ zA86 rfl rfl (Or.inl ⟨by rfl, ?_⟩) ?_ ?_ ?_
  rotate_left
  ·intro w'
   go_simp
   with_reducible rfl
  rotate_left
  ·simp only [Act.put, xA, xB, xC, i64_w, i32_w]
   rfl
  refine zu 4 (some 69) ?_ zA87 rfl rfl (Or.inl ⟨by rfl, ?_⟩) hHeld ?_ ?_ ?_
  rotate_left
  ·rintro w' ⟨s0, s1, s2, s3⟩
   go_simp
   with_reducible rfl
  rotate_left
  ·simp only [Act.put, xA, xB, xC, i64_w, i32_w]
   rfl
  refine zp 5 (some 70) ?_ zA88 rfl rfl (Or.inl ⟨by rfl, ?_⟩) ?_ ?_ ?_
  rotate_left
  ·intro w'
   go_simp
   with_reducible rfl
  rotate_left
  ·simp only [Act.put, xA, xB, xC, i64_w, i32_w]
   rfl
  refine zu 12 (some 77) ?_ zA89 rfl rfl (Or.inl ⟨by rfl, ?_⟩) hHeld ?_ ?_ ?_
  rotate_left
  ·rintro w' ⟨s0, s1, s2, s3⟩
   go_simp
   with_reducible rfl
  rotate_left
  ·simp only [Act.put, xA, xB, xC, i64_w, i32_w]
   rfl
  refine zp 13 (some 78) ?_ zA90 rfl rfl (Or.inl ⟨by rfl, ?_⟩) ?_ ?_ ?_
  rotate_left
  ·intro w'
   go_simp
   with_reducible rfl
  rotate_left
  ·simp only [Act.put, xA, xB, xC, i64_w, i32_w]
   rfl
  refine zp 14 (some 79) ?_ zA91 rfl rfl (Or.inl ⟨by rfl, ?_⟩) ?_ ?_ ?_
  rotate_left
  ·intro w'
   go_simp
   with_reducible rfl
  rotate_left
  ·simp only [Act.put, xA, xB, xC, i64_w, i32_w]
   rfl
  refine last_ (i := 15) (N := some 80) zA92 rfl rfl (one_of HT_.out (by kernel_rfl)) (by decide) (fun K hK => ?_)
  refine value_ (w1 := ?_) (v := ?_) (by rfl) rfl ?_ ?_
  rotate_left 2
  ·go_simp
   constructor
   ·rfl
   ·rfl
  refine hK.out _ _ ?_
  clear hK K
  refine norm_ (a' := ?_) ?_ ?_
  rotate_left
  ·show Act.put _ (some 80) _ = _
   simp only [Act.put, xA, xB, xC, i64_w, i32_w]
   rfl
  refine last_ (i := 16) (N := some 81) zA93 rfl rfl (one_of HT_.out (by kernel_rfl)) (by decide) (fun K hK => ?_)
  refine Kd.R_append_step k59 w.heap.size (by rfl) (.tmp 65) (.tmp 80) 24 59 (.agg #[(.int .i64 0), (.int .i64 0)]) 16 rfl Try.underlying24 info59 rfl (by decide) (by omega) (.slice (some ad455) t422.length co81) t422 (⟨wrap64 (((rd_T59 t422 0).f0) + 3), wrap64 (((rd_T59 t422 (ji72)).f1) + 2)⟩ : S59) [.int .i64 (wrap64 (((rd_T59 t422 0).f0) + 3)), .int .i64 (wrap64 (((rd_T59 t422 (ji72)).f1) + 2))] (fun k_ => some k_ ≠ (.slice Ao79 t411.length co79 : Value).ownBlock) (fun _ => False) rfl rfl ?aP (fun _ hk => hk.elim) ?aF ?aO (Below.refl _ _) ?aS ?aL ?_
  (case aP => exact k59_mkM _ _ _ (⟨wrap64 (((rd_T59 t422 0).f0) + 3), wrap64 (((rd_T59 t422 (ji72)).f1) + 2)⟩ : S59))
  (case aF => exact (fun k_ hk => Kd.fresh' (Kd.R_lt (mR_ HO413.out)) k_ hk))
  (case aO => exact (zd1 HO424.out))
  (case aS => exact (keep_size (w := w) (g := g) (row := none) (zK HK.out)))
  (case aL => have := LMc75.out; omega)
  intro v458 w85 ho hb hg hat
  rw [← Ny457.out] at ho
  have n0_ := aM (IsS98.grown (zI98 HI0.out) hg (IsS98.own_ne HI0.out HO424.out (by decide)))
  have n1_ := aM (Kd.R_after (ok := (fun _ => True)) (mR_ HO413.out) hg hat)
  have n2_ := aM (below_weaken (zs (IsS98.ge HI0.out)) HL.out hb)
  have n3_ := aM (KeepBut.trans (zK HK.out) (KeepBut.of_grown hg g) (Kd.R_base2 HO424.out))
  have n4_ := aM (ho)
  clear HI0
  clear HO413
  clear HB
  clear HK
  clear HO424
  have HI0 := n0_
  have HO413 := n1_
  have HB := n2_
  have HK := n3_
  have HO459 := n4_
  clear n0_ n1_ n2_ n3_ n4_
  clear ho hb hg hat
  refine hK.out _ _ ?_
  clear hK K
  refine norm_ (a' := ?_) ?_ ?_
  rotate_left
  ·show Act.put _ (some 81) _ = _
   simp only [Act.put, xA, xB, xC, i64_w, i32_w]
   rfl
  refine zp 17 (some 2) ?_ zA94 rfl rfl (Or.inl ⟨by rfl, ?_⟩) ?_ ?_ ?_
  rotate_left
  ·intro w'
   go_simp
   with_reducible rfl
  rotate_left
  ·simp only [Act.put, xA, xB, xC, i64_w, i32_w]
   rfl
  refine done_ (done_of HT_.out (by kernel_rfl)) ?_
  try go_wp2
  go_ret
  exact ⟨_, by first | rfl | (simp [errW_none, errW_some] <;> rfl) | (simp only [← hji72]; first | rfl | (simp [errW_none, errW_some] <;> rfl)) | (simp [*, errW_none, errW_some] <;> rfl), zd0 HO459.out, zI98 HI0.out, zs (IsS98.ge HI0.out), zK HK.out⟩
 rw [if_neg c70] at H
 have c70b0 : (t428 == 4) = false := beq_eq_false_iff_ne.mpr c70
 have c70b1 : (t428 != 4) = true := bne_iff_ne.mpr c70
 by_cases c86 : t428 = 5
 rotate_left
 ·rw [if_neg c86] at H
  have c86b0 : (t428 == 5) = false := beq_eq_false_iff_ne.mpr c86
  have c86b1 : (t428 != 5) = true := bne_iff_ne.mpr c86
  simp only [Option.some.injEq, Prod.mk.injEq] at H
  obtain ⟨rfl, rfl, rfl⟩ := H
  go_enter Try.func103, Try.ntmps103
  go_wp2_with (first | ((with_reducible refine gate_callee (f := 118) rfl ?_); refine goesL_ (some 8) rfl rfl Try.func118 (by kernel_rfl) rfl #[.pointer (some ⟨g, 0, none⟩), .int .i64 8] rfl zm ?_; (with_reducible refine (spec_l02DrawPoly.calls k g s0_0 s0_1 s0_2 8 t411 t414 t415 w0 _ ?side1 ?side2 A2.out).mono ?_); (case side1 => exact zI98 HI0.out); (case side2 => exact zs (IsS98.ge HI0.out)); rintro e w102 ⟨v412, rfl, ho0, hi, hb, hk⟩; refine ⟨_, rfl, ?_⟩; have n0_ := aM (Kd.R_lower ho0 (keep_size (w := w) (g := g) (row := none) (zK HK.out))); have n1_ := aM (KeepBut.trans (zK HK.out) hk (.inl rfl)); have n2_ := aM (hb); have n3_ := aM (hi); clear HK HB HI0; have HO413 := n0_; have HK := n1_; have HB := n2_; have HI0 := n3_; clear n0_ n1_ n2_ n3_; (try clear hb); (try clear hb2); (try clear hk); (try clear hi); (try clear ho0)) | ((with_reducible refine gate_callee (f := 71) rfl ?_); refine goesL_ (some 10) rfl rfl Try.func71 (by kernel_rfl) rfl #[.pointer (some ⟨g, 0, none⟩), .int .i64 9] rfl zm ?_; (with_reducible refine (spec_l01Next.calls g s0_0 t414 t415 9 t416 t417 t418 w0 _ ?side1 ?side2 A3.out).mono ?_); (case side1 => exact zI98 HI0.out); (case side2 => exact zs (IsS98.ge HI0.out)); rintro e w103 ⟨rfl, hi, hb, hk⟩; refine ⟨_, rfl, ?_⟩; have n0_ := aM (Kd.R_mono (Kd.R_keep (IsS98.apart (show IsS98 w0 _ g s0_0 t414 t415 from zI98 HI0.out) (mR_ HO413.out) (by decide)) hk (fun _ h => h.2)) (fun _ h => h.1)); have n1_ := aM (KeepBut.trans (zK HK.out) hk (.inl rfl)); have n2_ := aM (hb); have n3_ := aM (hi); clear HO413 HK HB HI0; have HO413 := n0_; have HK := n1_; have HB := n2_; have HI0 := n3_; clear n0_ n1_ n2_ n3_; (try clear hb); (try clear hb2); (try clear hk); (try clear hi)) | ((with_reducible refine gate_callee (f := 71) rfl ?_); refine goesL_ (some 13) rfl rfl Try.func71 (by kernel_rfl) rfl #[.pointer (some ⟨g, 0, none⟩), .int .i64 9] rfl zm ?_; (with_reducible refine (spec_l01Next.calls g s0_0 t417 t418 9 t419 t420 t421 w0 _ ?side1 ?side2 A4.out).mono ?_); (case side1 => exact zI98 HI0.out); (case side2 => exact zs (IsS98.ge HI0.out)); rintro e w104 ⟨rfl, hi, hb, hk⟩; refine ⟨_, rfl, ?_⟩; have n0_ := aM (Kd.R_mono (Kd.R_keep (IsS98.apart (show IsS98 w0 _ g s0_0 t417 t418 from zI98 HI0.out) (mR_ HO413.out) (by decide)) hk (fun _ h => h.2)) (fun _ h => h.1)); have n1_ := aM (KeepBut.trans (zK HK.out) hk (.inl rfl)); have n2_ := aM (hb); have n3_ := aM (hi); clear HO413 HK HB HI0; have HO413 := n0_; have HK := n1_; have HB := n2_; have HI0 := n3_; clear n0_ n1_ n2_ n3_; (try clear hb); (try clear hb2); (try clear hk); (try clear hi); obtain ⟨Ao105, co105, eo105⟩ := Kd.R_slice HO413.out; subst eo105) | ((with_reducible refine gate_callee (f := 122) rfl ?_); refine goesL_ (some 15) rfl rfl Try.func122 (by kernel_rfl) rfl #[.slice Ao105 t411.length co105, .int .i64 (wrap64 (t416 - 4)), .int .i64 (wrap64 (t419 - 4))] rfl zm ?_; (with_reducible refine (spec_l02Move.calls k _ _ t411 (wrap64 (t416 - 4)) (wrap64 (t419 - 4)) t422 _ ?side1 ?side2 A5.out).mono ?_); (case side1 => exact zc HO413.out); (case side2 => exact (Kd.R_reads' HO413.out).2.1); rintro e w106 ⟨v423, rfl, ho0, hb⟩; refine ⟨_, rfl, ?_⟩; have n0_ := aM (Kd.R_elder' (mR_ HO413.out) (Kd.R_base ho0) hb); have n1_ := aM (Kd.R_lower (Kd.R_new' ho0 (Kd.R_lt (mR_ HO413.out))) (keep_size (w := w) (g := g) (row := none) (zK HK.out))); have n2_ := aM (IsS98.below (zI98 HI0.out) hb); have n3_ := aM (KeepBut.trans (zK HK.out) (KeepBut.of_below hb g none) (.inl rfl)); have n4_ := aM (below_step (zs (IsS98.ge HI0.out)) hb); clear HO413 HI0 HK HB; have HO413 := n0_; have HO424 := n1_; have HI0 := n2_; have HK := n3_; have HB := n4_; clear n0_ n1_ n2_ n3_ n4_; (try clear hb); (try clear hb2); (try clear hk); (try clear hi); (try clear ho0); obtain ⟨Ao107, co107, eo107⟩ := Kd.R_slice HO424.out; subst eo107) | ((with_reducible refine gate_callee (f := 71) rfl ?_); refine goesL_ (some 19) rfl rfl Try.func71 (by kernel_rfl) rfl #[.pointer (some ⟨g, 0, none⟩), .int .i64 (t422.length : Int)] rfl zm ?_; (with_reducible refine (spec_l01Next.calls g s0_0 t420 t421 (t422.length : Int) t425 t426 t427 w0 _ ?side1 ?side2 A6.out).mono ?_); (case side1 => exact zI98 HI0.out); (case side2 => exact zs (IsS98.ge HI0.out)); rintro e w108 ⟨rfl, hi, hb, hk⟩; refine ⟨_, rfl, ?_⟩; have n0_ := aM (Kd.R_mono (Kd.R_keep (IsS98.apart (show IsS98 w0 _ g s0_0 t420 t421 from zI98 HI0.out) (mR_ HO413.out) (by decide)) hk (fun _ h => h.2)) (fun _ h => h.1)); have n1_ := aM (Kd.R_mono (Kd.R_keep (IsS98.apart (show IsS98 w0 _ g s0_0 t420 t421 from zI98 HI0.out) (mR_ HO424.out) (by decide)) hk (fun _ h => h.2)) (fun _ h => h.1)); have n2_ := aM (KeepBut.trans (zK HK.out) hk (.inl rfl)); have n3_ := aM (hb); have n4_ := aM (hi); clear HO413 HO424 HK HB HI0; have HO413 := n0_; have HO424 := n1_; have HK := n2_; have HB := n3_; have HI0 := n4_; clear n0_ n1_ n2_ n3_ n4_; (try clear hb); (try clear hb2); (try clear hk); (try clear hi)) | ((with_reducible refine gate_callee (f := 71) rfl ?_); refine goesL_ (some 21) rfl rfl Try.func71 (by kernel_rfl) rfl #[.pointer (some ⟨g, 0, none⟩), .int .i64 24] rfl zm ?_; (with_reducible refine (spec_l01Next.calls g s0_0 t426 t427 24 t428 t429 t430 w0 _ ?side1 ?side2 A7.out).mono ?_); (case side1 => exact zI98 HI0.out); (case side2 => exact zs (IsS98.ge HI0.out)); rintro e w109 ⟨rfl, hi, hb, hk⟩; refine ⟨_, rfl, ?_⟩; have n0_ := aM (Kd.R_mono (Kd.R_keep (IsS98.apart (show IsS98 w0 _ g s0_0 t426 t427 from zI98 HI0.out) (mR_ HO413.out) (by decide)) hk (fun _ h => h.2)) (fun _ h => h.1)); have n1_ := aM (Kd.R_mono (Kd.R_keep (IsS98.apart (show IsS98 w0 _ g s0_0 t426 t427 from zI98 HI0.out) (mR_ HO424.out) (by decide)) hk (fun _ h => h.2)) (fun _ h => h.1)); have n2_ := aM (KeepBut.trans (zK HK.out) hk (.inl rfl)); have n3_ := aM (hb); have n4_ := aM (hi); clear HO413 HO424 HK HB HI0; have HO413 := n0_; have HO424 := n1_; have HK := n2_; have HB := n3_; have HI0 := n4_; clear n0_ n1_ n2_ n3_ n4_; (try clear hb); (try clear hb2); (try clear hk); (try clear hi)))
  go_ret
  exact ⟨_, zw, zd0 HO424.out, zI98 HI0.out, zs (IsS98.ge HI0.out), zK HK.out⟩
 rw [if_pos c86] at H
 have c86b0 : (t428 == 5) = true := beq_iff_eq.mpr c86
 have c86b1 : (t428 != 5) = false := bne_eq_false_iff_eq.mpr c86
 clear c86
 by_cases c87 : 0 < (t422.length : Int)
 rotate_left
 ·rw [if_neg c87] at H
  exact absurd H (by simp)
 rw [if_pos c87] at H
 have c87b0 : decide (0 < (t422.length : Int)) = true := decide_eq_true c87
 have c87b1 : decide (0 < t422.length) = true := decide_eq_true (by omega)
 clear c87
 obtain ⟨ji88, hji88⟩ : ∃ j_ : Int, (wrap64 ((t422.length : Int) - 1)) = j_ := ⟨_, rfl⟩
 replace H : (if 0 ≤ (ji88) then (if (ji88) < (t422.length : Int) then (if t422.length < 8796093022208 then (some ((t422 ++ [(⟨wrap64 (((rd_T59 t422 0).f0) + 3), wrap64 (((rd_T59 t422 (ji88)).f1) + 2)⟩ : S59)]), t429, t430)) else (none)) else (none)) else (none)) = some (r1, r2, r3) := by first | (rw [hji88] at H; exact H) | (simp only [hji88] at H ⊢; exact H)
 (try rw [hji88] at A2)
 (try rw [hji88] at A3)
 (try rw [hji88] at A4)
 (try rw [hji88] at A5)
 (try rw [hji88] at A6)
 (try rw [hji88] at A7)
 have hji88w : (IntKind.i64.wrap ((t422.length : Int) - 1)) = ji88 := (i64_w _).trans hji88
 by_cases c89 : 0 ≤ (ji88)
 rotate_left
 ·rw [if_neg c89] at H
  exact absurd H (by simp)
 rw [if_pos c89] at H
 have c89b0 : decide (0 ≤ (ji88)) = true := decide_eq_true c89
 clear c89
 by_cases c90 : (ji88) < (t422.length : Int)
 rotate_left
 ·rw [if_neg c90] at H
  exact absurd H (by simp)
 rw [if_pos c90] at H
 have c90b0 : decide ((ji88) < (t422.length : Int)) = true := decide_eq_true c90
 clear c90
 by_cases c91 : t422.length < 8796093022208
 rotate_left
 ·rw [if_neg c91] at H
  exact absurd H (by simp)
 rw [if_pos c91] at H
 have LMc91 := aM c91
 clear c91
 obtain ⟨y462, hy462⟩ : ∃ y_ : List (S59), y_ = (t422 ++ [(⟨wrap64 (((rd_T59 t422 0).f0) + 3), wrap64 (((rd_T59 t422 (ji88)).f1) + 2)⟩ : S59)]) := ⟨_, rfl⟩
 replace H : (some (y462, t429, t430)) = some (r1, r2, r3) := zy H hy462
 have Ny462 := aM hy462
 clear hy462
 simp only [Option.some.injEq, Prod.mk.injEq] at H
 obtain ⟨rfl, rfl, rfl⟩ := H
 go_enter Try.func103, Try.ntmps103
 try go_wp2_with (first | ((with_reducible refine gate_callee (f := 118) rfl ?_); refine goesL_ (some 8) rfl rfl Try.func118 (by kernel_rfl) rfl #[.pointer (some ⟨g, 0, none⟩), .int .i64 8] rfl zm ?_; (with_reducible refine (spec_l02DrawPoly.calls k g s0_0 s0_1 s0_2 8 t411 t414 t415 w0 _ ?side1 ?side2 A2.out).mono ?_); (case side1 => exact zI98 HI0.out); (case side2 => exact zs (IsS98.ge HI0.out)); rintro e w92 ⟨v412, rfl, ho0, hi, hb, hk⟩; refine ⟨_, rfl, ?_⟩; have n0_ := aM (Kd.R_lower ho0 (keep_size (w := w) (g := g) (row := none) (zK HK.out))); have n1_ := aM (KeepBut.trans (zK HK.out) hk (.inl rfl)); have n2_ := aM (hb); have n3_ := aM (hi); clear HK HB HI0; have HO413 := n0_; have HK := n1_; have HB := n2_; have HI0 := n3_; clear n0_ n1_ n2_ n3_; (try clear hb); (try clear hb2); (try clear hk); (try clear hi); (try clear ho0)) | ((with_reducible refine gate_callee (f := 71) rfl ?_); refine goesL_ (some 10) rfl rfl Try.func71 (by kernel_rfl) rfl #[.pointer (some ⟨g, 0, none⟩), .int .i64 9] rfl zm ?_; (with_reducible refine (spec_l01Next.calls g s0_0 t414 t415 9 t416 t417 t418 w0 _ ?side1 ?side2 A3.out).mono ?_); (case side1 => exact zI98 HI0.out); (case side2 => exact zs (IsS98.ge HI0.out)); rintro e w93 ⟨rfl, hi, hb, hk⟩; refine ⟨_, rfl, ?_⟩; have n0_ := aM (Kd.R_mono (Kd.R_keep (IsS98.apart (show IsS98 w0 _ g s0_0 t414 t415 from zI98 HI0.out) (mR_ HO413.out) (by decide)) hk (fun _ h => h.2)) (fun _ h => h.1)); have n1_ := aM (KeepBut.trans (zK HK.out) hk (.inl rfl)); have n2_ := aM (hb); have n3_ := aM (hi); clear HO413 HK HB HI0; have HO413 := n0_; have HK := n1_; have HB := n2_; have HI0 := n3_; clear n0_ n1_ n2_ n3_; (try clear hb); (try clear hb2); (try clear hk); (try clear hi)) | ((with_reducible refine gate_callee (f := 71) rfl ?_); refine goesL_ (some 13) rfl rfl Try.func71 (by kernel_rfl) rfl #[.pointer (some ⟨g, 0, none⟩), .int .i64 9] rfl zm ?_; (with_reducible refine (spec_l01Next.calls g s0_0 t417 t418 9 t419 t420 t421 w0 _ ?side1 ?side2 A4.out).mono ?_); (case side1 => exact zI98 HI0.out); (case side2 => exact zs (IsS98.ge HI0.out)); rintro e w94 ⟨rfl, hi, hb, hk⟩; refine ⟨_, rfl, ?_⟩; have n0_ := aM (Kd.R_mono (Kd.R_keep (IsS98.apart (show IsS98 w0 _ g s0_0 t417 t418 from zI98 HI0.out) (mR_ HO413.out) (by decide)) hk (fun _ h => h.2)) (fun _ h => h.1)); have n1_ := aM (KeepBut.trans (zK HK.out) hk (.inl rfl)); have n2_ := aM (hb); have n3_ := aM (hi); clear HO413 HK HB HI0; have HO413 := n0_; have HK := n1_; have HB := n2_; have HI0 := n3_; clear n0_ n1_ n2_ n3_; (try clear hb); (try clear hb2); (try clear hk); (try clear hi); obtain ⟨Ao95, co95, eo95⟩ := Kd.R_slice HO413.out; subst eo95) | ((with_reducible refine gate_callee (f := 122) rfl ?_); refine goesL_ (some 15) rfl rfl Try.func122 (by kernel_rfl) rfl #[.slice Ao95 t411.length co95, .int .i64 (wrap64 (t416 - 4)), .int .i64 (wrap64 (t419 - 4))] rfl zm ?_; (with_reducible refine (spec_l02Move.calls k _ _ t411 (wrap64 (t416 - 4)) (wrap64 (t419 - 4)) t422 _ ?side1 ?side2 A5.out).mono ?_); (case side1 => exact zc HO413.out); (case side2 => exact (Kd.R_reads' HO413.out).2.1); rintro e w96 ⟨v423, rfl, ho0, hb⟩; refine ⟨_, rfl, ?_⟩; have n0_ := aM (Kd.R_elder' (mR_ HO413.out) (Kd.R_base ho0) hb); have n1_ := aM (Kd.R_lower (Kd.R_new' ho0 (Kd.R_lt (mR_ HO413.out))) (keep_size (w := w) (g := g) (row := none) (zK HK.out))); have n2_ := aM (IsS98.below (zI98 HI0.out) hb); have n3_ := aM (KeepBut.trans (zK HK.out) (KeepBut.of_below hb g none) (.inl rfl)); have n4_ := aM (below_step (zs (IsS98.ge HI0.out)) hb); clear HO413 HI0 HK HB; have HO413 := n0_; have HO424 := n1_; have HI0 := n2_; have HK := n3_; have HB := n4_; clear n0_ n1_ n2_ n3_ n4_; (try clear hb); (try clear hb2); (try clear hk); (try clear hi); (try clear ho0); obtain ⟨Ao97, co97, eo97⟩ := Kd.R_slice HO424.out; subst eo97) | ((with_reducible refine gate_callee (f := 71) rfl ?_); refine goesL_ (some 19) rfl rfl Try.func71 (by kernel_rfl) rfl #[.pointer (some ⟨g, 0, none⟩), .int .i64 (t422.length : Int)] rfl zm ?_; (with_reducible refine (spec_l01Next.calls g s0_0 t420 t421 (t422.length : Int) t425 t426 t427 w0 _ ?side1 ?side2 A6.out).mono ?_); (case side1 => exact zI98 HI0.out); (case side2 => exact zs (IsS98.ge HI0.out)); rintro e w98 ⟨rfl, hi, hb, hk⟩; refine ⟨_, rfl, ?_⟩; have n0_ := aM (Kd.R_mono (Kd.R_keep (IsS98.apart (show IsS98 w0 _ g s0_0 t420 t421 from zI98 HI0.out) (mR_ HO413.out) (by decide)) hk (fun _ h => h.2)) (fun _ h => h.1)); have n1_ := aM (Kd.R_mono (Kd.R_keep (IsS98.apart (show IsS98 w0 _ g s0_0 t420 t421 from zI98 HI0.out) (mR_ HO424.out) (by decide)) hk (fun _ h => h.2)) (fun _ h => h.1)); have n2_ := aM (KeepBut.trans (zK HK.out) hk (.inl rfl)); have n3_ := aM (hb); have n4_ := aM (hi); clear HO413 HO424 HK HB HI0; have HO413 := n0_; have HO424 := n1_; have HK := n2_; have HB := n3_; have HI0 := n4_; clear n0_ n1_ n2_ n3_ n4_; (try clear hb); (try clear hb2); (try clear hk); (try clear hi)) | ((with_reducible refine gate_callee (f := 71) rfl ?_); refine goesL_ (some 21) rfl rfl Try.func71 (by kernel_rfl) rfl #[.pointer (some ⟨g, 0, none⟩), .int .i64 24] rfl zm ?_; (with_reducible refine (spec_l01Next.calls g s0_0 t426 t427 24 t428 t429 t430 w0 _ ?side1 ?side2 A7.out).mono ?_); (case side1 => exact zI98 HI0.out); (case side2 => exact zs (IsS98.ge HI0.out)); rintro e w99 ⟨rfl, hi, hb, hk⟩; refine ⟨_, rfl, ?_⟩; have n0_ := aM (Kd.R_mono (Kd.R_keep (IsS98.apart (show IsS98 w0 _ g s0_0 t426 t427 from zI98 HI0.out) (mR_ HO413.out) (by decide)) hk (fun _ h => h.2)) (fun _ h => h.1)); have n1_ := aM (Kd.R_mono (Kd.R_keep (IsS98.apart (show IsS98 w0 _ g s0_0 t426 t427 from zI98 HI0.out) (mR_ HO424.out) (by decide)) hk (fun _ h => h.2)) (fun _ h => h.1)); have n2_ := aM (KeepBut.trans (zK HK.out) hk (.inl rfl)); have n3_ := aM (hb); have n4_ := aM (hi); clear HO413 HO424 HK HB HI0; have HO413 := n0_; have HO424 := n1_; have HK := n2_; have HB := n3_; have HI0 := n4_; clear n0_ n1_ n2_ n3_ n4_; (try clear hb); (try clear hb2); (try clear hk); (try clear hi)))
 have n0_ := aM (Kd.R_drew HO413.out)
 have n1_ := aM (Kd.R_drew HO424.out)
 have n2_ := aM (IsS98.drew HI0.out)
 have n3_ := aM (keep_drew HK.out)
 have n4_ := aM (below_drew1 HB.out)
 clear HO413
 clear HO424
 clear HI0
 clear HK
 clear HB
 have HO413 := n0_
 have HO424 := n1_
 have HI0 := n2_
 have HK := n3_
 have HB := n4_
 clear n0_ n1_ n2_ n3_ n4_
 have p460 : 0 ≤ (0 : Int) := (by omega)
 have q460 : 0 < (t422.length : Int) := of_decide_eq_true za
 obtain ⟨ad460, e460, hx460_0, hx460_1⟩ := at_T59 (Kd.R_reads' HO424.out).2.2 0 p460 q460
 cases e460
 have qi460 : (0 < t422.length) = True := eq_true (by omega)
 (try rw [show ((0 : Int)).toNat = 0 from rfl] at hx460_0)
 (try rw [show 0 * 2 = 0 from rfl] at hx460_0)
 (try rw [Addr.add_zero'] at hx460_0)
 (try rw [show ((0 : Int)).toNat = 0 from rfl] at hx460_1)
 (try rw [show 0 * 2 = 0 from rfl] at hx460_1)
 (try rw [Addr.add_zero'] at hx460_1)
 replace p460 := eq_true p460
 replace q460 := eq_true q460
 have p461 : 0 ≤ ((ji88) : Int) := of_decide_eq_true za
 have q461 : (ji88) < (t422.length : Int) := of_decide_eq_true za
 obtain ⟨ad461, e461, hx461_0, hx461_1⟩ := at_T59 (Kd.R_reads' HO424.out).2.2 (ji88) p461 q461
 obtain rfl : ad460 = ad461 := (by injection e461)
 replace p461 := eq_true p461
 replace q461 := eq_true q461
 refine start_ (n := 18) (S := fun w' => w'.cell? ad460 = some (.int .i64 ((rd_T59 t422 0).f0)) ∧ w'.cell? ⟨ad460.block, ad460.off + 1, none⟩ = some (.int .i64 ((rd_T59 t422 0).f1)) ∧ w'.cell? (ad460.add (((ji88)).toNat * 2)) = some (.int .i64 ((rd_T59 t422 (ji88)).f0)) ∧ w'.cell? ⟨(ad460.add (((ji88)).toNat * 2)).block, (ad460.add (((ji88)).toNat * 2)).off + 1, none⟩ = some (.int .i64 ((rd_T59 t422 (ji88)).f1))) (ds := [15, 16]) zA76 (by kernel_rfl) rfl rfl ⟨hx460_0, hx460_1, hx461_0, hx461_1⟩ (fun hHeld => ?_); refine with_tabW spec_l02Draw.tab20 spec_l02Draw.bits20 (fun HT_ HW_ => ?_)
 generalize w99.drew = w100 at HO413 HO424 HI0 HK HB hx460_0 hx460_1 hx461_0 hx461_1 hHeld ⊢
 refine zp 0 (some 65) ?_ zA77 rfl rfl (Or.inl ⟨by rfl, ?_⟩) ?_ ?_ ?_
 rotate_left
 ·intro w'
  go_simp
  with_reducible rfl
 rotate_left
 ·simp only [Act.put, xA, xB, xC, i64_w, i32_w]
  rfl
 refine zp 1 (some 66) ?_ zA78 rfl rfl (Or.inl ⟨by rfl, ?_⟩) ?_ ?_ ?_
 rotate_left
 ·intro w'
  go_simp
  with_reducible rfl
 rotate_left
 ·simp only [Act.put, xA, xB, xC, i64_w, i32_w]
  rfl
 refine zp 2 (some 67) ?_ zA79 rfl rfl (Or.inl ⟨by rfl, ?_⟩) ?_ ?_ ?_
 rotate_left
 ·intro w'
  go_simp
  with_reducible rfl
 rotate_left
 ·simp only [Act.put, xA, xB, xC, i64_w, i32_w]
  rfl
 refine zp 3 (some 68) ?_ zA80 rfl rfl (Or.inl ⟨by rfl, ?_⟩) ?_ ?_ ?_
 rotate_left
 ·intro w'
  go_simp
  with_reducible rfl
 rotate_left
 ·simp only [Act.put, xA, xB, xC, i64_w, i32_w]
  rfl
 refine zp 6 (some 71) ?_ zA81 rfl rfl (Or.inl ⟨by rfl, ?_⟩) ?_ ?_ ?_
 rotate_left
 ·intro w'
  go_simp
  with_reducible rfl
 rotate_left
 ·simp only [Act.put, xA, xB, xC, i64_w, i32_w]
  rfl
 refine zp 7 (some 72) ?_ zA82 rfl rfl (Or.inl ⟨by rfl, ?_⟩) ?_ ?_ ?_
 rotate_left
 ·intro w'
  go_simp
  with_reducible rfl
 rotate_left
 ·simp only [Act.put, xA, xB, xC, i64_w, i32_w]
  rfl
 refine zp 8 (some 73) ?_ zA83 rfl rfl (Or.inl ⟨by rfl, ?_⟩) ?_ ?_ ?_
 rotate_left
 ·intro w'
  go_simp
  with_reducible rfl
 rotate_left
 ·simp only [Act.put, xA, xB, xC, i64_w, i32_w]
  rfl
 refine zp 9 (some 74) ?_ zA84 rfl rfl (Or.inl ⟨by rfl, ?_⟩) ?_ ?_ ?_
 rotate_left
 ·intro w'
  go_simp
  with_reducible rfl
 rotate_left
 ·simp only [Act.put, xA, xB, xC, i64_w, i32_w]
  rfl
 refine zp 10 (some 75) ?_ zA85 rfl rfl (Or.inl ⟨by rfl, ?_⟩) ?_ ?_ ?_
 rotate_left
 ·intro w'
  go_simp
  with_reducible rfl
 rotate_left
 ·simp only [Act.put, xA, xB, xC, i64_w, i32_w]
  rfl
 refine zp 11 (some 76) ?_ zA86 rfl rfl (Or.inl ⟨by rfl, ?_⟩) ?_ ?_ ?_
 rotate_left
 ·intro w'
  go_simp
  with_reducible rfl
 rotate_left
 ·simp only [Act.put, xA, xB, xC, i64_w, i32_w]
  rfl
 refine zu 4 (some 69) ?_ zA87 rfl rfl (Or.inl ⟨by rfl, ?_⟩) hHeld ?_ ?_ ?_
 rotate_left
 ·rintro w' ⟨s0, s1, s2, s3⟩
  go_simp
  with_reducible rfl
 rotate_left
 ·simp only [Act.put, xA, xB, xC, i64_w, i32_w]
  rfl
 refine zp 5 (some 70) ?_ zA88 rfl rfl (Or.inl ⟨by rfl, ?_⟩) ?_ ?_ ?_
 rotate_left
 ·intro w'
  go_simp
  with_reducible rfl
 rotate_left
 ·simp only [Act.put, xA, xB, xC, i64_w, i32_w]
  rfl
 refine zu 12 (some 77) ?_ zA89 rfl rfl (Or.inl ⟨by rfl, ?_⟩) hHeld ?_ ?_ ?_
 rotate_left
 ·rintro w' ⟨s0, s1, s2, s3⟩
  go_simp
  with_reducible rfl
 rotate_left
 ·simp only [Act.put, xA, xB, xC, i64_w, i32_w]
  rfl
 refine zp 13 (some 78) ?_ zA90 rfl rfl (Or.inl ⟨by rfl, ?_⟩) ?_ ?_ ?_
 rotate_left
 ·intro w'
  go_simp
  with_reducible rfl
 rotate_left
 ·simp only [Act.put, xA, xB, xC, i64_w, i32_w]
  rfl
 refine zp 14 (some 79) ?_ zA91 rfl rfl (Or.inl ⟨by rfl, ?_⟩) ?_ ?_ ?_
 rotate_left
 ·intro w'
  go_simp
  with_reducible rfl
 rotate_left
 ·simp only [Act.put, xA, xB, xC, i64_w, i32_w]
  rfl
 refine last_ (i := 15) (N := some 80) zA92 rfl rfl (one_of HT_.out (by kernel_rfl)) (by decide) (fun K hK => ?_)
 refine value_ (w1 := ?_) (v := ?_) (by rfl) rfl ?_ ?_
 rotate_left 2
 ·go_simp
  constructor
  ·rfl
  ·rfl
 refine hK.out _ _ ?_
 clear hK K
 refine norm_ (a' := ?_) ?_ ?_
 rotate_left
 ·show Act.put _ (some 80) _ = _
  simp only [Act.put, xA, xB, xC, i64_w, i32_w]
  rfl
 refine last_ (i := 16) (N := some 81) zA93 rfl rfl (one_of HT_.out (by kernel_rfl)) (by decide) (fun K hK => ?_)
 refine Kd.R_append_step k59 w.heap.size (by rfl) (.tmp 65) (.tmp 80) 24 59 (.agg #[(.int .i64 0), (.int .i64 0)]) 16 rfl Try.underlying24 info59 rfl (by decide) (by omega) (.slice (some ad460) t422.length co97) t422 (⟨wrap64 (((rd_T59 t422 0).f0) + 3), wrap64 (((rd_T59 t422 (ji88)).f1) + 2)⟩ : S59) [.int .i64 (wrap64 (((rd_T59 t422 0).f0) + 3)), .int .i64 (wrap64 (((rd_T59 t422 (ji88)).f1) + 2))] (fun k_ => some k_ ≠ (.slice Ao95 t411.length co95 : Value).ownBlock) (fun _ => False) rfl rfl ?aP (fun _ hk => hk.elim) ?aF ?aO (Below.refl _ _) ?aS ?aL ?_
 (case aP => exact k59_mkM _ _ _ (⟨wrap64 (((rd_T59 t422 0).f0) + 3), wrap64 (((rd_T59 t422 (ji88)).f1) + 2)⟩ : S59))
 (case aF => exact (fun k_ hk => Kd.fresh' (Kd.R_lt (mR_ HO413.out)) k_ hk))
 (case aO => exact (zd1 HO424.out))
 (case aS => exact (keep_size (w := w) (g := g) (row := none) (zK HK.out)))
 (case aL => have := LMc91.out; omega)
 intro v463 w101 ho hb hg hat
 rw [← Ny462.out] at ho
 have n0_ := aM (IsS98.grown (zI98 HI0.out) hg (IsS98.own_ne HI0.out HO424.out (by decide)))
 have n1_ := aM (Kd.R_after (ok := (fun _ => True)) (mR_ HO413.out) hg hat)
 have n2_ := aM (below_weaken (zs (IsS98.ge HI0.out)) HL.out hb)
 have n3_ := aM (KeepBut.trans (zK HK.out) (KeepBut.of_grown hg g) (Kd.R_base2 HO424.out))
 have n4_ := aM (ho)
 clear HI0
 clear HO413
 clear HB
 clear HK
 clear HO424
 have HI0 := n0_
 have HO413 := n1_
 have HB := n2_
 have HK := n3_
 have HO464 := n4_
 clear n0_ n1_ n2_ n3_ n4_
 clear ho hb hg hat
 refine hK.out _ _ ?_
 clear hK K
 refine norm_ (a' := ?_) ?_ ?_
 rotate_left
 ·show Act.put _ (some 81) _ = _
  simp only [Act.put, xA, xB, xC, i64_w, i32_w]
  rfl
 refine zp 17 (some 2) ?_ zA94 rfl rfl (Or.inl ⟨by rfl, ?_⟩) ?_ ?_ ?_
 rotate_left
 ·intro w'
  go_simp
  with_reducible rfl
 rotate_left
 ·simp only [Act.put, xA, xB, xC, i64_w, i32_w]
  rfl
 refine done_ (done_of HT_.out (by kernel_rfl)) ?_
 try go_wp2
 go_ret
 exact ⟨_, by first | rfl | (simp [errW_none, errW_some] <;> rfl) | (simp only [← hji88]; first | rfl | (simp [errW_none, errW_some] <;> rfl)) | (simp [*, errW_none, errW_some] <;> rfl), zd0 HO464.out, zI98 HI0.out, zs (IsS98.ge HI0.out), zK HK.out⟩
mutual
def spec_l06Draw.l0 : Nat → Int → Int → List (S59) → Int → List Int → Int → Int → Option ((List (S59)) × Int × Int)
 | 0, _, _, _, _, _, _, _ => none
 | k + 1, x3, x4, x5, x6, x1000, x1001, x1002 => if x6 < x4 then (spec_l06Draw.l1 k x3 x4 x5 x6 0 x1000 x1001 x1002) else (some (x5, x1001, x1002))
def spec_l06Draw.l1 : Nat → Int → Int → List (S59) → Int → Int → List Int → Int → Int → Option ((List (S59)) × Int × Int)
 | 0, _, _, _, _, _, _, _, _ => none
 | k + 1, x3, x4, x5, x6, x7, x1000, x1001, x1002 => if x7 < x3 then (if x7 = 0 then (spec_l06Draw.j2 k x3 x4 x5 x6 x7 true x1000 x1001 x1002) else (if x6 = 0 then (spec_l06Draw.j2 k x3 x4 x5 x6 x7 true x1000 x1001 x1002) else (if x7 = (wrap64 (x3 - 1)) then (spec_l06Draw.j2 k x3 x4 x5 x6 x7 true x1000 x1001 x1002) else (spec_l06Draw.j2 k x3 x4 x5 x6 x7 (x6 == (wrap64 (x4 - 1))) x1000 x1001 x1002)))) else (spec_l06Draw.l0 k x3 x4 x5 (wrap64 (x6 + 1)) x1000 x1001 x1002)
def spec_l06Draw.j2 : Nat → Int → Int → List (S59) → Int → Int → Bool → List Int → Int → Int → Option ((List (S59)) × Int × Int)
 | 0, _, _, _, _, _, _, _, _, _ => none
 | k + 1, x3, x4, x5, x6, x7, x8, x1000, x1001, x1002 => if x8 = true then ((spec_l01Next.f x1000 x1001 x1002 12).bind fun bt482 => (if bt482.1 > 0 then (if x5.length < 8796093022208 then (spec_l06Draw.l1 k x3 x4 (x5 ++ [(⟨x7, x6⟩ : S59)]) x6 (wrap64 (x7 + 1)) x1000 bt482.2.1 bt482.2.2) else (none)) else (spec_l06Draw.l1 k x3 x4 x5 x6 (wrap64 (x7 + 1)) x1000 bt482.2.1 bt482.2.2))) else ((spec_l01Next.f x1000 x1001 x1002 3).bind fun bt488 => (if bt488.1 = 0 then (if x5.length < 8796093022208 then (spec_l06Draw.l1 k x3 x4 (x5 ++ [(⟨x7, x6⟩ : S59)]) x6 (wrap64 (x7 + 1)) x1000 bt488.2.1 bt488.2.2) else (none)) else (spec_l06Draw.l1 k x3 x4 x5 x6 (wrap64 (x7 + 1)) x1000 bt488.2.1 bt488.2.2)))
end
def spec_l06Draw.f (k : Nat) (s0_0 : List Int) (s0_1 : Int) (s0_2 : Int) : Option ((List (S59)) × Int × Int) := (spec_l01Next.f s0_0 s0_1 s0_2 3).bind fun bt465 => (if bt465.1 = 0 then ((spec_l02Draw.f k s0_0 bt465.2.1 bt465.2.2).bind fun bt468 => (some (bt468.1, bt468.2.1, bt468.2.2))) else ((spec_l01Next.f s0_0 bt465.2.1 bt465.2.2 4).bind fun bt473 => ((spec_l01Next.f s0_0 bt473.2.1 bt473.2.2 3).bind fun bt476 => (spec_l06Draw.l0 k (wrap64 (3 + bt473.1)) (wrap64 (3 + bt476.1)) (([] : List (S59))) 0 s0_0 bt476.2.1 bt476.2.2))))
theorem spec_l06Draw.calls (k : Nat) (g : Nat) (s0_0 : List Int) (s0_1 : Int) (s0_2 : Int) (r1 : List (S59)) (r2 : Int) (r3 : Int) (w0 w : World) (hI : IsS98 w0 w g s0_0 s0_1 s0_2) (hB : Below w0.heap.size w0 w) (h : spec_l06Draw.f k s0_0 s0_1 s0_2 = some (r1, r2, r3)) :
  Calls Try.prog 63 #[.pointer (some ⟨g, 0, none⟩)] w fun e w' => ∃ v0_ : Value, e = .returned (v0_) ∧ Kd.R k59 59 w' w.heap.size (fun _ => True) v0_ r1 ∧ IsS98 w0 w' g s0_0 r2 r3 ∧ Below w0.heap.size w0 w' ∧ KeepBut w w' g none := by
 have hu59 := Try.underlying59
 have HI0 := aM hI
 have HK := aM (KeepBut.refl w g none)
 have HL := aM hB.size
 clear hI
 have HW0 := aM hB.size
 have HB := aM hB
 clear hB
 have H : ((spec_l01Next.f s0_0 s0_1 s0_2 3).bind fun bt465 => (if bt465.1 = 0 then ((spec_l02Draw.f k s0_0 bt465.2.1 bt465.2.2).bind fun bt468 => (some (bt468.1, bt468.2.1, bt468.2.2))) else ((spec_l01Next.f s0_0 bt465.2.1 bt465.2.2 4).bind fun bt473 => ((spec_l01Next.f s0_0 bt473.2.1 bt473.2.2 3).bind fun bt476 => (spec_l06Draw.l0 k (wrap64 (3 + bt473.1)) (wrap64 (3 + bt476.1)) (([] : List (S59))) 0 s0_0 bt476.2.1 bt476.2.2))))) = some (r1, r2, r3) := h
 clear h
 replace H := Option.bind_eq_some_iff.mp H
 obtain ⟨⟨t465, t466, t467⟩, A20, H⟩ := H
 replace H : (if t465 = 0 then ((spec_l02Draw.f k s0_0 t466 t467).bind fun bt468 => (some (bt468.1, bt468.2.1, bt468.2.2))) else ((spec_l01Next.f s0_0 t466 t467 4).bind fun bt473 => ((spec_l01Next.f s0_0 bt473.2.1 bt473.2.2 3).bind fun bt476 => (spec_l06Draw.l0 k (wrap64 (3 + bt473.1)) (wrap64 (3 + bt476.1)) (([] : List (S59))) 0 s0_0 bt476.2.1 bt476.2.2)))) = some (r1, r2, r3) := H
 have A2 := aM A20
 clear A20
 by_cases c3 : t465 = 0
 ·rw [if_pos c3] at H
  have c3b0 : (t465 == 0) = true := beq_iff_eq.mpr c3
  have c3b1 : (t465 != 0) = false := bne_eq_false_iff_eq.mpr c3
  clear c3
  replace H := Option.bind_eq_some_iff.mp H
  obtain ⟨⟨t468, t471, t472⟩, A40, H⟩ := H
  replace H : (some (t468, t471, t472)) = some (r1, r2, r3) := H
  have A4 := aM A40
  clear A40
  simp only [Option.some.injEq, Prod.mk.injEq] at H
  obtain ⟨rfl, rfl, rfl⟩ := H
  go_enter Try.func63, Try.ntmps63
  go_wp2_with (first | ((with_reducible refine gate_callee (f := 71) rfl ?_); refine goesL_ (some 10) rfl rfl Try.func71 (by kernel_rfl) rfl #[.pointer (some ⟨g, 0, none⟩), .int .i64 3] rfl zm ?_; (with_reducible refine (spec_l01Next.calls g s0_0 s0_1 s0_2 3 t465 t466 t467 w0 _ ?side1 ?side2 A2.out).mono ?_); (case side1 => exact zI98 HI0.out); (case side2 => exact zs (IsS98.ge HI0.out)); rintro e w5 ⟨rfl, hi, hb, hk⟩; refine ⟨_, rfl, ?_⟩; have n0_ := aM (KeepBut.trans (zK HK.out) hk (.inl rfl)); have n1_ := aM (hb); have n2_ := aM (hi); clear HK HB HI0; have HK := n0_; have HB := n1_; have HI0 := n2_; clear n0_ n1_ n2_; (try clear hb); (try clear hb2); (try clear hk); (try clear hi)) | ((with_reducible refine gate_callee (f := 103) rfl ?_); refine goesL_ (some 13) rfl rfl Try.func103 (by kernel_rfl) rfl #[.pointer (some ⟨g, 0, none⟩)] rfl zm ?_; (with_reducible refine (spec_l02Draw.calls k g s0_0 t466 t467 t468 t471 t472 w0 _ ?side1 ?side2 A4.out).mono ?_); (case side1 => exact zI98 HI0.out); (case side2 => exact zs (IsS98.ge HI0.out)); rintro e w6 ⟨v469, rfl, ho0, hi, hb, hk⟩; refine ⟨_, rfl, ?_⟩; have n0_ := aM (Kd.R_lower ho0 (keep_size (w := w) (g := g) (row := none) (zK HK.out))); have n1_ := aM (KeepBut.trans (zK HK.out) hk (.inl rfl)); have n2_ := aM (hb); have n3_ := aM (hi); clear HK HB HI0; have HO470 := n0_; have HK := n1_; have HB := n2_; have HI0 := n3_; clear n0_ n1_ n2_ n3_; (try clear hb); (try clear hb2); (try clear hk); (try clear hi); (try clear ho0)))
  go_ret
  exact ⟨_, zw, mR_ HO470.out, zI98 HI0.out, zs (IsS98.ge HI0.out), zK HK.out⟩
 rw [if_neg c3] at H
 have c3b0 : (t465 == 0) = false := beq_eq_false_iff_ne.mpr c3
 have c3b1 : (t465 != 0) = true := bne_iff_ne.mpr c3
 replace H := Option.bind_eq_some_iff.mp H
 obtain ⟨⟨t473, t474, t475⟩, A70, H⟩ := H
 replace H : ((spec_l01Next.f s0_0 t474 t475 3).bind fun bt476 => (spec_l06Draw.l0 k (wrap64 (3 + t473)) (wrap64 (3 + bt476.1)) (([] : List (S59))) 0 s0_0 bt476.2.1 bt476.2.2)) = some (r1, r2, r3) := H
 have A7 := aM A70
 clear A70
 replace H := Option.bind_eq_some_iff.mp H
 obtain ⟨⟨t476, t477, t478⟩, A80, H⟩ := H
 replace H : (spec_l06Draw.l0 k (wrap64 (3 + t473)) (wrap64 (3 + t476)) (([] : List (S59))) 0 s0_0 t477 t478) = some (r1, r2, r3) := H
 have A8 := aM A80
 clear A80
 obtain ⟨y479, hy479⟩ : ∃ y_ : List (S59), y_ = (([] : List (S59))) := ⟨_, rfl⟩
 replace H : (spec_l06Draw.l0 k (wrap64 (3 + t473)) (wrap64 (3 + t476)) y479 0 s0_0 t477 t478) = some (r1, r2, r3) := zy H hy479
 have Ny479 := aM hy479
 clear hy479
 have H' := aM H
 clear H
 go_enter Try.func63, Try.ntmps63
 go_wp2_with (first | ((with_reducible refine gate_callee (f := 71) rfl ?_); refine goesL_ (some 10) rfl rfl Try.func71 (by kernel_rfl) rfl #[.pointer (some ⟨g, 0, none⟩), .int .i64 3] rfl zm ?_; (with_reducible refine (spec_l01Next.calls g s0_0 s0_1 s0_2 3 t465 t466 t467 w0 _ ?side1 ?side2 A2.out).mono ?_); (case side1 => exact zI98 HI0.out); (case side2 => exact zs (IsS98.ge HI0.out)); rintro e w9 ⟨rfl, hi, hb, hk⟩; refine ⟨_, rfl, ?_⟩; have n0_ := aM (KeepBut.trans (zK HK.out) hk (.inl rfl)); have n1_ := aM (hb); have n2_ := aM (hi); clear HK HB HI0; have HK := n0_; have HB := n1_; have HI0 := n2_; clear n0_ n1_ n2_; (try clear hb); (try clear hb2); (try clear hk); (try clear hi)) | ((with_reducible refine gate_callee (f := 71) rfl ?_); refine goesL_ (some 15) rfl rfl Try.func71 (by kernel_rfl) rfl #[.pointer (some ⟨g, 0, none⟩), .int .i64 4] rfl zm ?_; (with_reducible refine (spec_l01Next.calls g s0_0 t466 t467 4 t473 t474 t475 w0 _ ?side1 ?side2 A7.out).mono ?_); (case side1 => exact zI98 HI0.out); (case side2 => exact zs (IsS98.ge HI0.out)); rintro e w10 ⟨rfl, hi, hb, hk⟩; refine ⟨_, rfl, ?_⟩; have n0_ := aM (KeepBut.trans (zK HK.out) hk (.inl rfl)); have n1_ := aM (hb); have n2_ := aM (hi); clear HK HB HI0; have HK := n0_; have HB := n1_; have HI0 := n2_; clear n0_ n1_ n2_; (try clear hb); (try clear hb2); (try clear hk); (try clear hi)) | ((with_reducible refine gate_callee (f := 71) rfl ?_); refine goesL_ (some 18) rfl rfl Try.func71 (by kernel_rfl) rfl #[.pointer (some ⟨g, 0, none⟩), .int .i64 3] rfl zm ?_; (with_reducible refine (spec_l01Next.calls g s0_0 t474 t475 3 t476 t477 t478 w0 _ ?side1 ?side2 A8.out).mono ?_); (case side1 => exact zI98 HI0.out); (case side2 => exact zs (IsS98.ge HI0.out)); rintro e w11 ⟨rfl, hi, hb, hk⟩; refine ⟨_, rfl, ?_⟩; have n0_ := aM (KeepBut.trans (zK HK.out) hk (.inl rfl)); have n1_ := aM (hb); have n2_ := aM (hi); clear HK HB HI0; have HK := n0_; have HB := n1_; have HI0 := n2_; clear n0_ n1_ n2_; (try clear hb); (try clear hb2); (try clear hk); (try clear hi)) | ((with_reducible refine gate_dst (N := 20) rfl ?_); refine Kd.R_lit k59 _ 59 ?hg (N := 20) ?hd (xs := ([] : List (S59))) (inner := []) (ok := fun _ => True) (okp := fun _ => True) ?hr ?hp (fun _ hk => hk) trivial (Below.refl _ _) (Nat.le_refl _) (by simp) ?_; (case hd => rfl); (case hg => rfl); (case hr => first | (go_simp; done) | (go_simp; rfl)); (case hp => exact (Reps.none _ _)); intro v480 w12 ho13 hb hg_ hnew_; clear hg_ hnew_; (first | rw [← Ny479.out] at ho13 | (simp only [Int.reduceToNat] at ho13; rw [← Ny479.out] at ho13)); have n0_ := aM (Kd.R_lower ho13 (keep_size (w := w) (g := g) (row := none) (zK HK.out))); have n1_ := aM (IsS98.below (zI98 HI0.out) hb); have n2_ := aM (KeepBut.trans (zK HK.out) (KeepBut.of_below hb g none) (.inl rfl)); have n3_ := aM (below_step (zs (IsS98.ge HI0.out)) hb); clear HI0 HK HB; have HO481 := n0_; have HI0 := n1_; have HK := n2_; have HB := n3_; clear n0_ n1_ n2_ n3_; clear hb ho13))
 go_loopg [5, 6] k (fun kq v5 v6 w' => ∃ (x5_1 : List (S59)) (x6_1 : Int) (x1001_1 : Int) (x1002_1 : Int), v6 = .int .i64 x6_1 ∧ Aside0 (spec_l06Draw.l0 kq (wrap64 (3 + t473)) (wrap64 (3 + t476)) x5_1 x6_1 s0_0 x1001_1 x1002_1 = some (r1, r2, r3)) ∧ Aside0 (kq ≤ k) ∧ Aside0 (Kd.R k59 59 w' w.heap.size (fun _ => True) v5 x5_1) ∧ Aside0 (IsS98 w0 w' g s0_0 x1001_1 x1002_1) ∧ Aside0 (KeepBut w w' g none) ∧ Aside0 (Below w0.heap.size w0 w'))
 case atStart => exact ⟨(y479), (0), (t477), (t478), zr, H', ⟨Nat.le_refl _⟩, ⟨mR_ HO481.out⟩, ⟨zI98 HI0.out⟩, ⟨zK HK.out⟩, ⟨zs (IsS98.ge HI0.out)⟩⟩
 case round =>
  clear H'
  try clear c1
  try clear p2
  try clear c3
  try clear c3b0
  try clear c3b1
  try clear c6
  try clear p6
  try clear c7
  try clear c10
  obtain ⟨x5_1, x6_1, x1001_1, x1002_1, rfl, HA, HK1, HO_5, HI0, HK, HB⟩ := hrel
  cases gk with
  | zero => exact absurd HA.out (by simp [spec_l06Draw.l0])
  | succ k1 =>
   have H := HA.out
   clear HA
   simp only [spec_l06Draw.l0] at H
   by_cases c14 : x6_1 < (wrap64 (3 + t476))
   rotate_left
   ·rw [if_neg c14] at H
    have c14b0 : decide (x6_1 < (wrap64 (3 + t476))) = false := decide_eq_false c14
    clear c14
    simp only [Option.some.injEq, Prod.mk.injEq] at H
    obtain ⟨rfl, rfl, rfl⟩ := H
    go_wp2
    go_ret
    exact ⟨_, zw, mR_ HO_5.out, zI98 HI0.out, zs (IsS98.ge HI0.out), zK HK.out⟩
   rw [if_pos c14] at H
   have c14b0 : decide (x6_1 < (wrap64 (3 + t476))) = true := decide_eq_true c14
   clear c14
   have H' := aM H
   clear H
   go_wp2
   go_loopg [5, 7] k1 (fun kq v5 v7 w' => ∃ (x5_2 : List (S59)) (x7_2 : Int) (x1001_2 : Int) (x1002_2 : Int), v7 = .int .i64 x7_2 ∧ Aside0 (spec_l06Draw.l1 kq (wrap64 (3 + t473)) (wrap64 (3 + t476)) x5_2 x6_1 x7_2 s0_0 x1001_2 x1002_2 = some (r1, r2, r3)) ∧ Aside0 (kq ≤ k1) ∧ Aside0 (Kd.R k59 59 w' w.heap.size (fun _ => True) v5 x5_2) ∧ Aside0 (IsS98 w0 w' g s0_0 x1001_2 x1002_2) ∧ Aside0 (KeepBut w w' g none) ∧ Aside0 (Below w0.heap.size w0 w'))
   case atStart => exact ⟨(x5_1), (0), (x1001_1), (x1002_1), zr, H', ⟨Nat.le_refl _⟩, ⟨mR_ HO_5.out⟩, ⟨zI98 HI0.out⟩, ⟨zK HK.out⟩, ⟨zs (IsS98.ge HI0.out)⟩⟩
   case round =>
    clear H'
    try clear c1
    try clear p2
    try clear c3
    try clear c3b0
    try clear c3b1
    try clear c6
    try clear p6
    try clear c7
    try clear c10
    try clear c14
    try clear c14b0
    try clear p2
    try clear p6
    obtain ⟨x5_2, x7_2, x1001_2, x1002_2, rfl, HA, HK2, HO_5, HI0, HK, HB⟩ := hrel
    cases gk with
    | zero => exact absurd HA.out (by simp [spec_l06Draw.l1])
    | succ k2 =>
     have H := HA.out
     clear HA
     simp only [spec_l06Draw.l1] at H
     by_cases c15 : x7_2 < (wrap64 (3 + t473))
     rotate_left
     ·rw [if_neg c15] at H
      have c15b0 : decide (x7_2 < (wrap64 (3 + t473))) = false := decide_eq_false c15
      clear c15
      have H' := aM H
      clear H
      go_wp2
      go_roundg k2
      case measure => have := HK1.out; have := HK2.out; omega
      case rel => exact ⟨(x5_2), (wrap64 (x6_1 + 1)), (x1001_2), (x1002_2), zr, H', ⟨by have := HK1.out; have := HK2.out; omega⟩, ⟨mR_ HO_5.out⟩, ⟨zI98 HI0.out⟩, ⟨zK HK.out⟩, ⟨zs (IsS98.ge HI0.out)⟩⟩
     rw [if_pos c15] at H
     have c15b0 : decide (x7_2 < (wrap64 (3 + t473))) = true := decide_eq_true c15
     clear c15
     have HC16 := aM H
     clear H
     go_upto_region 11 with (fail)
     go_cut [8] (fun v8 wc => ∃ (kq : Nat) (x8_15 : Bool), v8 = .bool x8_15 ∧ Aside0 (spec_l06Draw.j2 kq (wrap64 (3 + t473)) (wrap64 (3 + t476)) x5_2 x6_1 x7_2 x8_15 s0_0 x1001_2 x1002_2 = some (r1, r2, r3)) ∧ Aside0 (kq ≤ k2) ∧ Aside0 (Kd.R k59 59 wc w.heap.size (fun _ => True) u5 x5_2) ∧ Aside0 (IsS98 w0 wc g s0_0 x1001_2 x1002_2) ∧ Aside0 (KeepBut w wc g none) ∧ Aside0 (Below w0.heap.size w0 wc))
     case first =>
      have H := HC16.out
      clear HC16
      by_cases c17 : x7_2 = 0
      ·rw [if_pos c17] at H
       have c17b0 : (x7_2 == 0) = true := beq_iff_eq.mpr c17
       have c17b1 : (x7_2 != 0) = false := bne_eq_false_iff_eq.mpr c17
       clear c17
       (first | rw [c17b0] | (simp only [i64_w, i32_w]; rw [c17b0]) | skip)
       have H' := aM H
       clear H
       go_wp2
       go_meet
       case rel => exact ⟨_, (true), zr, H', ⟨by have := HK1.out; have := HK2.out; first | omega | exact Nat.le_refl _⟩, ⟨mR_ HO_5.out⟩, ⟨zI98 HI0.out⟩, ⟨zK HK.out⟩, ⟨zs (IsS98.ge HI0.out)⟩⟩
      rw [if_neg c17] at H
      have c17b0 : (x7_2 == 0) = false := beq_eq_false_iff_ne.mpr c17
      have c17b1 : (x7_2 != 0) = true := bne_iff_ne.mpr c17
      (first | rw [c17b0] | (simp only [i64_w, i32_w]; rw [c17b0]) | skip)
      by_cases c18 : x6_1 = 0
      ·rw [if_pos c18] at H
       have c18b0 : (x6_1 == 0) = true := beq_iff_eq.mpr c18
       have c18b1 : (x6_1 != 0) = false := bne_eq_false_iff_eq.mpr c18
       clear c18
       have H' := aM H
       clear H
       go_wp2
       go_meet
       case rel => exact ⟨_, (true), zr, H', ⟨by have := HK1.out; have := HK2.out; first | omega | exact Nat.le_refl _⟩, ⟨mR_ HO_5.out⟩, ⟨zI98 HI0.out⟩, ⟨zK HK.out⟩, ⟨zs (IsS98.ge HI0.out)⟩⟩
      rw [if_neg c18] at H
      have c18b0 : (x6_1 == 0) = false := beq_eq_false_iff_ne.mpr c18
      have c18b1 : (x6_1 != 0) = true := bne_iff_ne.mpr c18
      by_cases c19 : x7_2 = (wrap64 ((wrap64 (3 + t473)) - 1))
      rotate_left
      ·rw [if_neg c19] at H
       have c19b0 : (x7_2 == (wrap64 ((wrap64 (3 + t473)) - 1))) = false := beq_eq_false_iff_ne.mpr c19
       have c19b1 : (x7_2 != (wrap64 ((wrap64 (3 + t473)) - 1))) = true := bne_iff_ne.mpr c19
       have H' := aM H
       clear H
       go_wp2
       go_meet
       case rel => exact ⟨_, ((x6_1 == (wrap64 ((wrap64 (3 + t476)) - 1)))), zr, H', ⟨by have := HK1.out; have := HK2.out; first | omega | exact Nat.le_refl _⟩, ⟨mR_ HO_5.out⟩, ⟨zI98 HI0.out⟩, ⟨zK HK.out⟩, ⟨zs (IsS98.ge HI0.out)⟩⟩
      rw [if_pos c19] at H
      have c19b0 : (x7_2 == (wrap64 ((wrap64 (3 + t473)) - 1))) = true := beq_iff_eq.mpr c19
      have c19b1 : (x7_2 != (wrap64 ((wrap64 (3 + t473)) - 1))) = false := bne_eq_false_iff_eq.mpr c19
      clear c19
      have H' := aM H
      clear H
      go_wp2
      go_meet
      case rel => exact ⟨_, (true), zr, H', ⟨by have := HK1.out; have := HK2.out; first | omega | exact Nat.le_refl _⟩, ⟨mR_ HO_5.out⟩, ⟨zI98 HI0.out⟩, ⟨zK HK.out⟩, ⟨zs (IsS98.ge HI0.out)⟩⟩
     case rest =>
      clear HC16
      try clear c1
      try clear p2
      try clear c3
      try clear c3b0
      try clear c3b1
      try clear c6
      try clear p6
      try clear c7
      try clear c10
      try clear c14
      try clear c14b0
      try clear c15
      try clear c15b0
      try clear c17
      try clear c17b0
      try clear c17b1
      try clear c18
      try clear c18b0
      try clear c18b1
      try clear c19
      try clear c19b0
      try clear c19b1
      try clear p2
      try clear p6
      obtain ⟨kq, x8_15, rfl, HA, HJ15, HO_5, HI0, HK, HB⟩ := hcut
      cases kq with
      | zero => exact absurd HA.out (by simp [spec_l06Draw.j2])
      | succ kj15 =>
       have H := HA.out
       clear HA
       simp only [spec_l06Draw.j2] at H
       by_cases c20 : x8_15 = true
       ·subst c20
        have H1 : ((spec_l01Next.f s0_0 x1001_2 x1002_2 12).bind fun bt482 => (if bt482.1 > 0 then (if x5_2.length < 8796093022208 then (spec_l06Draw.l1 kj15 (wrap64 (3 + t473)) (wrap64 (3 + t476)) (x5_2 ++ [(⟨x7_2, x6_1⟩ : S59)]) x6_1 (wrap64 (x7_2 + 1)) s0_0 bt482.2.1 bt482.2.2) else (none)) else (spec_l06Draw.l1 kj15 (wrap64 (3 + t473)) (wrap64 (3 + t476)) x5_2 x6_1 (wrap64 (x7_2 + 1)) s0_0 bt482.2.1 bt482.2.2))) = some (r1, r2, r3) := by rw [if_pos rfl] at H; exact H
        clear H
        have H := H1
        clear H1
        replace H := Option.bind_eq_some_iff.mp H
        obtain ⟨⟨t482, t483, t484⟩, A210, H⟩ := H
        replace H : (if t482 > 0 then (if x5_2.length < 8796093022208 then (spec_l06Draw.l1 kj15 (wrap64 (3 + t473)) (wrap64 (3 + t476)) (x5_2 ++ [(⟨x7_2, x6_1⟩ : S59)]) x6_1 (wrap64 (x7_2 + 1)) s0_0 t483 t484) else (none)) else (spec_l06Draw.l1 kj15 (wrap64 (3 + t473)) (wrap64 (3 + t476)) x5_2 x6_1 (wrap64 (x7_2 + 1)) s0_0 t483 t484)) = some (r1, r2, r3) := H
        have A21 := aM A210
        clear A210
        by_cases c22 : t482 > 0
        rotate_left
        ·rw [if_neg c22] at H
         have c22b0 : decide (0 < t482) = false := decide_eq_false c22
         clear c22
         have H' := aM H
         clear H
         go_wp2_with (first | (go_at_call 71; (with_reducible refine (spec_l01Next.calls g s0_0 x1001_2 x1002_2 12 t482 t483 t484 w0 _ ?side1 ?side2 A21.out).mono ?_); (case side1 => exact zI98 HI0.out); (case side2 => exact zs (IsS98.ge HI0.out)); rintro e w26 ⟨rfl, hi, hb, hk⟩; have n0_ := aM (Kd.R_mono (Kd.R_keep (IsS98.apart (show IsS98 w0 _ g s0_0 x1001_2 x1002_2 from zI98 HI0.out) (mR_ HO_5.out) (by decide)) hk (fun _ h => h.2)) (fun _ h => h.1)); have n1_ := aM (KeepBut.trans (zK HK.out) hk (.inl rfl)); have n2_ := aM (hb); have n3_ := aM (hi); clear HO_5 HK HB HI0; have HO_5 := n0_; have HK := n1_; have HB := n2_; have HI0 := n3_; clear n0_ n1_ n2_ n3_; (try clear hb); (try clear hb2); (try clear hk); (try clear hi)))
         go_roundg kj15
         case measure => have := HK1.out; have := HK2.out; have := HJ15.out; omega
         case rel => exact ⟨(x5_2), (wrap64 (x7_2 + 1)), (t483), (t484), zr, H', ⟨by have := HK1.out; have := HK2.out; have := HJ15.out; omega⟩, ⟨mR_ HO_5.out⟩, ⟨zI98 HI0.out⟩, ⟨zK HK.out⟩, ⟨zs (IsS98.ge HI0.out)⟩⟩
        rw [if_pos c22] at H
        have c22b0 : decide (0 < t482) = true := decide_eq_true c22
        clear c22
        by_cases c23 : x5_2.length < 8796093022208
        rotate_left
        ·rw [if_neg c23] at H
         exact absurd H (by simp)
        rw [if_pos c23] at H
        have LMc23 := aM c23
        clear c23
        obtain ⟨y485, hy485⟩ : ∃ y_ : List (S59), y_ = (x5_2 ++ [(⟨x7_2, x6_1⟩ : S59)]) := ⟨_, rfl⟩
        replace H : (spec_l06Draw.l1 kj15 (wrap64 (3 + t473)) (wrap64 (3 + t476)) y485 x6_1 (wrap64 (x7_2 + 1)) s0_0 t483 t484) = some (r1, r2, r3) := zy H hy485
        have Ny485 := aM hy485
        clear hy485
        have H' := aM H
        clear H
        go_wp2_with (first | (go_at_call 71; (with_reducible refine (spec_l01Next.calls g s0_0 x1001_2 x1002_2 12 t482 t483 t484 w0 _ ?side1 ?side2 A21.out).mono ?_); (case side1 => exact zI98 HI0.out); (case side2 => exact zs (IsS98.ge HI0.out)); rintro e w24 ⟨rfl, hi, hb, hk⟩; have n0_ := aM (Kd.R_mono (Kd.R_keep (IsS98.apart (show IsS98 w0 _ g s0_0 x1001_2 x1002_2 from zI98 HI0.out) (mR_ HO_5.out) (by decide)) hk (fun _ h => h.2)) (fun _ h => h.1)); have n1_ := aM (KeepBut.trans (zK HK.out) hk (.inl rfl)); have n2_ := aM (hb); have n3_ := aM (hi); clear HO_5 HK HB HI0; have HO_5 := n0_; have HK := n1_; have HB := n2_; have HI0 := n3_; clear n0_ n1_ n2_ n3_; (try clear hb); (try clear hb2); (try clear hk); (try clear hi)) | ((with_reducible refine gate_builtin (b := .append) (xs := #[.tmp 64, .tmp 68]) rfl ?_); at_builtin; refine Kd.R_append k59 w.heap.size rfl (.tmp 64) (.tmp 68) 24 59 (.agg #[(.int .i64 0), (.int .i64 0)]) 16 rfl Try.underlying24 info59 rfl (by decide) (by omega) u5 x5_2 (⟨x7_2, x6_1⟩ : S59) [.int .i64 x7_2, .int .i64 x6_1] (fun _ => True) (fun _ => False) rfl rfl ?aP (fun _ hk => hk.elim) ?aF ?aO (Below.refl _ _) ?aS ?aL ?_; (case aP => exact k59_mkM _ _ _ (⟨x7_2, x6_1⟩ : S59)); (case aF => exact (fun _ _ => trivial)); (case aO => exact (mR_ HO_5.out)); (case aS => exact (keep_size (w := w) (g := g) (row := none) (zK HK.out))); (case aL => have := LMc23.out; omega); intro v486 w25 ho hb hg hat; rw [← Ny485.out] at ho; have n0_ := aM (IsS98.grown (zI98 HI0.out) hg (IsS98.own_ne HI0.out HO_5.out (by decide))); have n1_ := aM (below_weaken (zs (IsS98.ge HI0.out)) HL.out hb); have n2_ := aM (KeepBut.trans (zK HK.out) (KeepBut.of_grown hg g) (Kd.R_base2 HO_5.out)); have n3_ := aM (ho); clear HI0 HB HK HO_5; have HI0 := n0_; have HB := n1_; have HK := n2_; have HO487 := n3_; clear n0_ n1_ n2_ n3_; clear ho hb hg hat))
        go_roundg kj15
        case measure => have := HK1.out; have := HK2.out; have := HJ15.out; omega
        case rel => exact ⟨(y485), (wrap64 (x7_2 + 1)), (t483), (t484), zr, H', ⟨by have := HK1.out; have := HK2.out; have := HJ15.out; omega⟩, ⟨mR_ HO487.out⟩, ⟨zI98 HI0.out⟩, ⟨zK HK.out⟩, ⟨zs (IsS98.ge HI0.out)⟩⟩
       replace c20 := Bool.eq_false_iff.mpr c20
       subst c20
       have H1 : ((spec_l01Next.f s0_0 x1001_2 x1002_2 3).bind fun bt488 => (if bt488.1 = 0 then (if x5_2.length < 8796093022208 then (spec_l06Draw.l1 kj15 (wrap64 (3 + t473)) (wrap64 (3 + t476)) (x5_2 ++ [(⟨x7_2, x6_1⟩ : S59)]) x6_1 (wrap64 (x7_2 + 1)) s0_0 bt488.2.1 bt488.2.2) else (none)) else (spec_l06Draw.l1 kj15 (wrap64 (3 + t473)) (wrap64 (3 + t476)) x5_2 x6_1 (wrap64 (x7_2 + 1)) s0_0 bt488.2.1 bt488.2.2))) = some (r1, r2, r3) := by rw [if_neg (show ¬ (false = true) by decide)] at H; exact H
       clear H
       have H := H1
       clear H1
       replace H := Option.bind_eq_some_iff.mp H
       obtain ⟨⟨t488, t489, t490⟩, A270, H⟩ := H
       replace H : (if t488 = 0 then (if x5_2.length < 8796093022208 then (spec_l06Draw.l1 kj15 (wrap64 (3 + t473)) (wrap64 (3 + t476)) (x5_2 ++ [(⟨x7_2, x6_1⟩ : S59)]) x6_1 (wrap64 (x7_2 + 1)) s0_0 t489 t490) else (none)) else (spec_l06Draw.l1 kj15 (wrap64 (3 + t473)) (wrap64 (3 + t476)) x5_2 x6_1 (wrap64 (x7_2 + 1)) s0_0 t489 t490)) = some (r1, r2, r3) := H
       have A27 := aM A270
       clear A270
       by_cases c28 : t488 = 0
       rotate_left
       ·rw [if_neg c28] at H
        have c28b0 : (t488 == 0) = false := beq_eq_false_iff_ne.mpr c28
        have c28b1 : (t488 != 0) = true := bne_iff_ne.mpr c28
        have H' := aM H
        clear H
        go_wp2_with (first | (go_at_call 71; (with_reducible refine (spec_l01Next.calls g s0_0 x1001_2 x1002_2 3 t488 t489 t490 w0 _ ?side1 ?side2 A27.out).mono ?_); (case side1 => exact zI98 HI0.out); (case side2 => exact zs (IsS98.ge HI0.out)); rintro e w32 ⟨rfl, hi, hb, hk⟩; have n0_ := aM (Kd.R_mono (Kd.R_keep (IsS98.apart (show IsS98 w0 _ g s0_0 x1001_2 x1002_2 from zI98 HI0.out) (mR_ HO_5.out) (by decide)) hk (fun _ h => h.2)) (fun _ h => h.1)); have n1_ := aM (KeepBut.trans (zK HK.out) hk (.inl rfl)); have n2_ := aM (hb); have n3_ := aM (hi); clear HO_5 HK HB HI0; have HO_5 := n0_; have HK := n1_; have HB := n2_; have HI0 := n3_; clear n0_ n1_ n2_ n3_; (try clear hb); (try clear hb2); (try clear hk); (try clear hi)))
        go_roundg kj15
        case measure => have := HK1.out; have := HK2.out; have := HJ15.out; omega
        case rel => exact ⟨(x5_2), (wrap64 (x7_2 + 1)), (t489), (t490), zr, H', ⟨by have := HK1.out; have := HK2.out; have := HJ15.out; omega⟩, ⟨mR_ HO_5.out⟩, ⟨zI98 HI0.out⟩, ⟨zK HK.out⟩, ⟨zs (IsS98.ge HI0.out)⟩⟩
       rw [if_pos c28] at H
       have c28b0 : (t488 == 0) = true := beq_iff_eq.mpr c28
       have c28b1 : (t488 != 0) = false := bne_eq_false_iff_eq.mpr c28
       clear c28
       by_cases c29 : x5_2.length < 8796093022208
       rotate_left
       ·rw [if_neg c29] at H
        exact absurd H (by simp)
       rw [if_pos c29] at H
       have LMc29 := aM c29
       clear c29
       obtain ⟨y491, hy491⟩ : ∃ y_ : List (S59), y_ = (x5_2 ++ [(⟨x7_2, x6_1⟩ : S59)]) := ⟨_, rfl⟩
       replace H : (spec_l06Draw.l1 kj15 (wrap64 (3 + t473)) (wrap64 (3 + t476)) y491 x6_1 (wrap64 (x7_2 + 1)) s0_0 t489 t490) = some (r1, r2, r3) := zy H hy491
       have Ny491 := aM hy491
       clear hy491
       have H' := aM H
       clear H
       go_wp2_with (first | (go_at_call 71; (with_reducible refine (spec_l01Next.calls g s0_0 x1001_2 x1002_2 3 t488 t489 t490 w0 _ ?side1 ?side2 A27.out).mono ?_); (case side1 => exact zI98 HI0.out); (case side2 => exact zs (IsS98.ge HI0.out)); rintro e w30 ⟨rfl, hi, hb, hk⟩; have n0_ := aM (Kd.R_mono (Kd.R_keep (IsS98.apart (show IsS98 w0 _ g s0_0 x1001_2 x1002_2 from zI98 HI0.out) (mR_ HO_5.out) (by decide)) hk (fun _ h => h.2)) (fun _ h => h.1)); have n1_ := aM (KeepBut.trans (zK HK.out) hk (.inl rfl)); have n2_ := aM (hb); have n3_ := aM (hi); clear HO_5 HK HB HI0; have HO_5 := n0_; have HK := n1_; have HB := n2_; have HI0 := n3_; clear n0_ n1_ n2_ n3_; (try clear hb); (try clear hb2); (try clear hk); (try clear hi)) | ((with_reducible refine gate_builtin (b := .append) (xs := #[.tmp 64, .tmp 68]) rfl ?_); at_builtin; refine Kd.R_append k59 w.heap.size rfl (.tmp 64) (.tmp 68) 24 59 (.agg #[(.int .i64 0), (.int .i64 0)]) 16 rfl Try.underlying24 info59 rfl (by decide) (by omega) u5 x5_2 (⟨x7_2, x6_1⟩ : S59) [.int .i64 x7_2, .int .i64 x6_1] (fun _ => True) (fun _ => False) rfl rfl ?aP (fun _ hk => hk.elim) ?aF ?aO (Below.refl _ _) ?aS ?aL ?_; (case aP => exact k59_mkM _ _ _ (⟨x7_2, x6_1⟩ : S59)); (case aF => exact (fun _ _ => trivial)); (case aO => exact (mR_ HO_5.out)); (case aS => exact (keep_size (w := w) (g := g) (row := none) (zK HK.out))); (case aL => have := LMc29.out; omega); intro v492 w31 ho hb hg hat; rw [← Ny491.out] at ho; have n0_ := aM (IsS98.grown (zI98 HI0.out) hg (IsS98.own_ne HI0.out HO_5.out (by decide))); have n1_ := aM (below_weaken (zs (IsS98.ge HI0.out)) HL.out hb); have n2_ := aM (KeepBut.trans (zK HK.out) (KeepBut.of_grown hg g) (Kd.R_base2 HO_5.out)); have n3_ := aM (ho); clear HI0 HB HK HO_5; have HI0 := n0_; have HB := n1_; have HK := n2_; have HO493 := n3_; clear n0_ n1_ n2_ n3_; clear ho hb hg hat))
       go_roundg kj15
       case measure => have := HK1.out; have := HK2.out; have := HJ15.out; omega
       case rel => exact ⟨(y491), (wrap64 (x7_2 + 1)), (t489), (t490), zr, H', ⟨by have := HK1.out; have := HK2.out; have := HJ15.out; omega⟩, ⟨mR_ HO493.out⟩, ⟨zI98 HI0.out⟩, ⟨zK HK.out⟩, ⟨zs (IsS98.ge HI0.out)⟩⟩
end Go.Proofs.Ytfdfdifjkaaeoaa.F
end
section
namespace Go.Proofs.Ytfdfdifjkaaeoaa.F
open Go.RowKit Go.Proofs.YtfdfdifjkaaeoaaW.PrintWords Go.Proofs.YtfdfdifjkaaeoaaW.PrintLast Go.Proofs.YtfdfdifjkaaeoaaW.PrintMore
attribute [local go_sem] max2_int min2_int max_two min_two max_three min_three max_four min_four
set_option linter.unusedVariables false
set_option linter.unusedSimpArgs false
def spec_DrawConvexityOf.f (k : Nat) (l0 : List Int) : Option ((List (S59))) := (spec_l01From.f k l0).bind fun bt496 => ((spec_l06Draw.f k bt496.1 bt496.2.1 bt496.2.2).bind fun bt500 => (some bt500.1))
theorem spec_DrawConvexityOf.calls (k : Nat) (A0 : Option Addr) (c0 : Nat) (l0 : List Int) (r : List (S59)) (w : World) (hr0 : Kd.C (Kd.int .u8) w A0 l0.length l0) (hc0 : l0.length ≤ c0) (h : spec_DrawConvexityOf.f k l0 = some r) :
  Calls Try.prog 17 #[.slice A0 l0.length c0] w fun e w' => ∃ v0_ : Value, e = .returned (v0_) ∧ Kd.R k59 59 w' w.heap.size (fun _ => True) v0_ r ∧ Below w.heap.size w w' := by
 have HR0 := aM hr0
 have HC0 := aM hc0
 clear hr0 hc0
 have HB := aM (Below.refl w.heap.size w)
 have H : ((spec_l01From.f k l0).bind fun bt496 => ((spec_l06Draw.f k bt496.1 bt496.2.1 bt496.2.2).bind fun bt500 => (some bt500.1))) = some r := h
 clear h
 replace H := Option.bind_eq_some_iff.mp H
 obtain ⟨⟨t496, t497, t498⟩, A20, H⟩ := H
 replace H : ((spec_l06Draw.f k t496 t497 t498).bind fun bt500 => (some bt500.1)) = some r := H
 have A2 := aM A20
 clear A20
 replace H := Option.bind_eq_some_iff.mp H
 obtain ⟨⟨t500, t503, t504⟩, A30, H⟩ := H
 replace H : (some t500) = some r := H
 have A3 := aM A30
 clear A30
 obtain rfl := Option.some.inj H
 go_enter Try.func17, Try.ntmps17
 go_wp2_with (first | ((with_reducible refine gate_callee (f := 64) rfl ?_); refine goesL_ (some 4) rfl rfl Try.func64 (by kernel_rfl) rfl #[.slice A0 l0.length c0] rfl zm ?_; (with_reducible refine (spec_l01From.calls k _ _ l0 t496 t497 t498 w _ ?side1 ?side2 ?side3 A2.out).mono ?_); (case side1 => repeat (first | (with_reducible first | exact HB.out | apply below_alloc | apply pw_below_drewN | apply below_drew1) | exact HB.out)); (case side2 => exact HR0.out); (case side3 => exact HC0.out); rintro e w4 ⟨g499, rfl, hi, hb, hb2⟩; refine ⟨_, rfl, ?_⟩; have n0_ := aM (hb); have n1_ := aM (hi); clear HB; have HB := n0_; have HI499 := n1_; clear n0_ n1_; (try clear hb); (try clear hb2); (try clear hk); (try clear hi)) | ((with_reducible refine gate_callee (f := 63) rfl ?_); refine goesL_ (some 5) rfl rfl Try.func63 (by kernel_rfl) rfl #[.pointer (some ⟨g499, 0, none⟩)] rfl zm ?_; (with_reducible refine (spec_l06Draw.calls k g499 t496 t497 t498 t500 t503 t504 w _ ?side1 ?side2 A3.out).mono ?_); (case side1 => exact zI98 HI499.out); (case side2 => exact zs (IsS98.ge HI499.out)); rintro e w5 ⟨v501, rfl, ho0, hi, hb, hk⟩; refine ⟨_, rfl, ?_⟩; have n0_ := aM (Kd.R_lower ho0 (below_size (zs (IsS98.ge HI499.out)))); have n1_ := aM (hb); have n2_ := aM (hi); clear HB HI499; have HO502 := n0_; have HB := n1_; have HI499 := n2_; clear n0_ n1_ n2_; (try clear hb); (try clear hb2); (try clear hk); (try clear hi); (try clear ho0)))
 go_ret
 exact ⟨_, zw, mR_ HO502.out, zs (IsS98.ge HI499.out)⟩
mutual
def impl_ConvexityOf.l0 : Nat → List (S59) → Bool → Bool → List (S59) → Int → Int → Option (Bool × Bool × Int)
 | 0, _, _, _, _, _, _ => none
 | k + 1, x0, x5, x6, x16, x17, x18 => if x18 < x17 then (if 0 ≤ x18 then (if x18 < (x16.length : Int) then (impl_ConvexityOf.l1 k x0 x5 x6 x16 x17 x18 x0 (x0.length : Int) 0 ((rd_T59 x16 x18).f0) ((rd_T59 x16 x18).f1)) else (none)) else (none)) else (some (x5, x6, 0))
def impl_ConvexityOf.l1 : Nat → List (S59) → Bool → Bool → List (S59) → Int → Int → List (S59) → Int → Int → Int → Int → Option (Bool × Bool × Int)
 | 0, _, _, _, _, _, _, _, _, _, _, _ => none
 | k + 1, x0, x5, x6, x16, x17, x18, x22, x23, x24, x508000, x508001 => if x24 < x23 then (if 0 ≤ x24 then (if x24 < (x22.length : Int) then (impl_ConvexityOf.l2 k x0 x5 x6 (wrap64 (x508000 + 1)) x16 x17 x18 x22 x23 x24 x508000 x508001 ((rd_T59 x22 x24).f0) ((rd_T59 x22 x24).f1)) else (none)) else (none)) else (impl_ConvexityOf.l0 k x0 x5 x6 x16 x17 (wrap64 (x18 + 1)))
def impl_ConvexityOf.j3 : Nat → List (S59) → Bool → Bool → List (S59) → Int → Int → List (S59) → Int → Int → Int → Int → Int → Int → Option (Bool × Bool × Int)
 | 0, _, _, _, _, _, _, _, _, _, _, _, _, _ => none
 | k + 1, x0, x5, x6, x16, x17, x18, x22, x23, x24, x508000, x508001, x510000, x510001 => impl_ConvexityOf.l3 k x0 x5 x6 (wrap64 (x508001 + 1)) x16 x17 x18 x22 x23 x24 x508000 x508001 x510000 x510001
def impl_ConvexityOf.l3 : Nat → List (S59) → Bool → Bool → Int → List (S59) → Int → Int → List (S59) → Int → Int → Int → Int → Int → Int → Option (Bool × Bool × Int)
 | 0, _, _, _, _, _, _, _, _, _, _, _, _, _, _ => none
 | k + 1, x0, x5, x6, x12, x16, x17, x18, x22, x23, x24, x508000, x508001, x510000, x510001 => if x508000 = x510000 then (if x12 < x510001 then (if x6 = true then ((impl_Cell_65.f k x0 x508000 x12).bind fun t511 => (impl_ConvexityOf.l3 k x0 x5 t511 (wrap64 (x12 + 1)) x16 x17 x18 x22 x23 x24 x508000 x508001 x510000 x510001)) else (impl_ConvexityOf.l3 k x0 x5 false (wrap64 (x12 + 1)) x16 x17 x18 x22 x23 x24 x508000 x508001 x510000 x510001)) else (impl_ConvexityOf.l1 k x0 x5 x6 x16 x17 x18 x22 x23 (wrap64 (x24 + 1)) x508000 x508001)) else (impl_ConvexityOf.l1 k x0 x5 x6 x16 x17 x18 x22 x23 (wrap64 (x24 + 1)) x508000 x508001)
def impl_ConvexityOf.l2 : Nat → List (S59) → Bool → Bool → Int → List (S59) → Int → Int → List (S59) → Int → Int → Int → Int → Int → Int → Option (Bool × Bool × Int)
 | 0, _, _, _, _, _, _, _, _, _, _, _, _, _, _ => none
 | k + 1, x0, x5, x6, x11, x16, x17, x18, x22, x23, x24, x508000, x508001, x510000, x510001 => if x508001 = x510001 then (if x11 < x510000 then (if x5 = true then ((impl_Cell_65.f k x0 x11 x508001).bind fun t510 => (impl_ConvexityOf.l2 k x0 t510 x6 (wrap64 (x11 + 1)) x16 x17 x18 x22 x23 x24 x508000 x508001 x510000 x510001)) else (impl_ConvexityOf.l2 k x0 false x6 (wrap64 (x11 + 1)) x16 x17 x18 x22 x23 x24 x508000 x508001 x510000 x510001)) else (impl_ConvexityOf.j3 k x0 x5 x6 x16 x17 x18 x22 x23 x24 x508000 x508001 x510000 x510001)) else (impl_ConvexityOf.j3 k x0 x5 x6 x16 x17 x18 x22 x23 x24 x508000 x508001 x510000 x510001)
end
def impl_ConvexityOf.f (k : Nat) (l0 : List (S59)) : Option (Bool × Bool × Int) := (impl_IsShape.f k l0).bind fun t505 => (if t505 = true then (impl_ConvexityOf.l0 k l0 true true l0 (l0.length : Int) 0) else (some (false, false, 1)))
end Go.Proofs.Ytfdfdifjkaaeoaa.F
end
