/- The row of FnSolids, with what it needs: text 6 of 13. -/
import Derived.Test.YtonldmalaajkgaaKSO4
set_option maxHeartbeats 8000000
set_option maxRecDepth 100000
section
namespace Go.Proofs.Ytonldmalaajkgaa.F
open Go.RowKit Go.Proofs.YtonldmalaajkgaaW.PrintWords Go.Proofs.YtonldmalaajkgaaW.PrintLast Go.Proofs.YtonldmalaajkgaaW.PrintMore
attribute [local go_sem] max2_int min2_int max_two min_two max_three min_three max_four min_four
set_option linter.unusedVariables false
set_option linter.unusedSimpArgs false
abbrev spec_l09Draw.a3 (l : List S63) (i : Int) : Value := .agg #[.int .i64 ((rd_T63 l i).f0), .int .i64 ((rd_T63 l i).f1), .int .i64 ((rd_T63 l i).f2)]
abbrev spec_l09Draw.c3 (w : World) (a : Addr) (i : Int) (l : List S63) (R : Prop) : Prop := w.cell? (a.add (i.toNat * 3)) = some (.int .i64 ((rd_T63 l i).f0)) ∧ w.cell? ⟨(a.add (i.toNat * 3)).block, (a.add (i.toNat * 3)).off + 1, none⟩ = some (.int .i64 ((rd_T63 l i).f1)) ∧ w.cell? ⟨(a.add (i.toNat * 3)).block, (a.add (i.toNat * 3)).off + 2, none⟩ = some (.int .i64 ((rd_T63 l i).f2)) ∧ R
abbrev spec_l09Draw.d3 (w : World) (a : Addr) (i : Int) (l : List S63) : Prop := w.cell? (a.add (i.toNat * 3)) = some (.int .i64 ((rd_T63 l i).f0)) ∧ w.cell? ⟨(a.add (i.toNat * 3)).block, (a.add (i.toNat * 3)).off + 1, none⟩ = some (.int .i64 ((rd_T63 l i).f1)) ∧ w.cell? ⟨(a.add (i.toNat * 3)).block, (a.add (i.toNat * 3)).off + 2, none⟩ = some (.int .i64 ((rd_T63 l i).f2))
theorem spec_l09Draw.calls (k : Nat) (g : Nat) (s0_0 : List Int) (s0_1 : Int) (s0_2 : Int) (r1 : List (S63)) (r2 : Int) (r3 : Int) (w0 w : World) (hI : IsS79 w0 w g s0_0 s0_1 s0_2) (hB : Below w0.heap.size w0 w) (h : spec_l09Draw.f k s0_0 s0_1 s0_2 = some (r1, r2, r3)) :
  Calls Try.prog 37 #[.pointer (some ⟨g, 0, none⟩)] w fun e w' => ∃ v0_ : Value, e = .returned (v0_) ∧ Kd.R k63 63 w' w.heap.size (fun _ => True) v0_ r1 ∧ IsS79 w0 w' g s0_0 r2 r3 ∧ Below w0.heap.size w0 w' ∧ KeepBut w w' g none := by
 have hu63 := Try.underlying63
 have HI0 := aM hI
 have HK := aM (KeepBut.refl w g none)
 have HL := aM hB.size
 clear hI
 have HW0 := aM hB.size
 have HB := aM hB
 clear hB
 have H : ((spec_l01Next.f s0_0 s0_1 s0_2 5).bind fun bt468 => ((spec_l01Next.f s0_0 bt468.2.1 bt468.2.2 5).bind fun bt471 => ((spec_l01Next.f s0_0 bt471.2.1 bt471.2.2 5).bind fun bt474 => ((spec_l01Next.f s0_0 bt474.2.1 bt474.2.2 7).bind fun bt480 => (spec_l09Draw.l0 k (([(⟨wrap64 (bt468.1 - 2), wrap64 (bt471.1 - 2), wrap64 (bt474.1 - 2)⟩ : S63)] : List (S63))) bt480.1 s0_0 bt480.2.1 bt480.2.2))))) = some (r1, r2, r3) := h
 clear h
 replace H := Option.bind_eq_some_iff.mp H
 obtain ⟨⟨t468, t469, t470⟩, A20, H⟩ := H
 replace H : ((spec_l01Next.f s0_0 t469 t470 5).bind fun bt471 => ((spec_l01Next.f s0_0 bt471.2.1 bt471.2.2 5).bind fun bt474 => ((spec_l01Next.f s0_0 bt474.2.1 bt474.2.2 7).bind fun bt480 => (spec_l09Draw.l0 k (([(⟨wrap64 (t468 - 2), wrap64 (bt471.1 - 2), wrap64 (bt474.1 - 2)⟩ : S63)] : List (S63))) bt480.1 s0_0 bt480.2.1 bt480.2.2)))) = some (r1, r2, r3) := H
 have A2 := aM A20
 clear A20
 replace H := Option.bind_eq_some_iff.mp H
 obtain ⟨⟨t471, t472, t473⟩, A30, H⟩ := H
 replace H : ((spec_l01Next.f s0_0 t472 t473 5).bind fun bt474 => ((spec_l01Next.f s0_0 bt474.2.1 bt474.2.2 7).bind fun bt480 => (spec_l09Draw.l0 k (([(⟨wrap64 (t468 - 2), wrap64 (t471 - 2), wrap64 (bt474.1 - 2)⟩ : S63)] : List (S63))) bt480.1 s0_0 bt480.2.1 bt480.2.2))) = some (r1, r2, r3) := H
 have A3 := aM A30
 clear A30
 replace H := Option.bind_eq_some_iff.mp H
 obtain ⟨⟨t474, t475, t476⟩, A40, H⟩ := H
 replace H : ((spec_l01Next.f s0_0 t475 t476 7).bind fun bt480 => (spec_l09Draw.l0 k (([(⟨wrap64 (t468 - 2), wrap64 (t471 - 2), wrap64 (t474 - 2)⟩ : S63)] : List (S63))) bt480.1 s0_0 bt480.2.1 bt480.2.2)) = some (r1, r2, r3) := H
 have A4 := aM A40
 clear A40
 obtain ⟨y477, hy477⟩ : ∃ y_ : List (S63), y_ = (([(⟨wrap64 (t468 - 2), wrap64 (t471 - 2), wrap64 (t474 - 2)⟩ : S63)] : List (S63))) := ⟨_, rfl⟩
 replace H : ((spec_l01Next.f s0_0 t475 t476 7).bind fun bt480 => (spec_l09Draw.l0 k y477 bt480.1 s0_0 bt480.2.1 bt480.2.2)) = some (r1, r2, r3) := zy H hy477
 have Ny477 := aM hy477
 clear hy477
 replace H := Option.bind_eq_some_iff.mp H
 obtain ⟨⟨t480, t481, t482⟩, A50, H⟩ := H
 replace H : (spec_l09Draw.l0 k y477 t480 s0_0 t481 t482) = some (r1, r2, r3) := H
 have A5 := aM A50
 clear A50
 have H' := aM H
 clear H
 go_enter Try.func37, Try.ntmps37
 go_wp2_with (first | ((with_reducible refine gate_callee (f := 38) rfl ?_); refine goesL_ (some 10) rfl rfl Try.func38 (by kernel_rfl) rfl #[.pointer (some ⟨g, 0, none⟩), .int .i64 5] rfl zm ?_; (with_reducible refine (spec_l01Next.calls g s0_0 s0_1 s0_2 5 t468 t469 t470 w0 _ ?side1 ?side2 A2.out).mono ?_); (case side1 => exact zI79 HI0.out); (case side2 => exact zs (IsS79.ge HI0.out)); rintro e w6 ⟨rfl, hi, hb, hk⟩; refine ⟨_, rfl, ?_⟩; have n0_ := aM (KeepBut.trans (zK HK.out) hk (.inl rfl)); have n1_ := aM (hb); have n2_ := aM (hi); clear HK HB HI0; have HK := n0_; have HB := n1_; have HI0 := n2_; clear n0_ n1_ n2_; (try clear hb); (try clear hb2); (try clear hk); (try clear hi)) | ((with_reducible refine gate_callee (f := 38) rfl ?_); refine goesL_ (some 13) rfl rfl Try.func38 (by kernel_rfl) rfl #[.pointer (some ⟨g, 0, none⟩), .int .i64 5] rfl zm ?_; (with_reducible refine (spec_l01Next.calls g s0_0 t469 t470 5 t471 t472 t473 w0 _ ?side1 ?side2 A3.out).mono ?_); (case side1 => exact zI79 HI0.out); (case side2 => exact zs (IsS79.ge HI0.out)); rintro e w7 ⟨rfl, hi, hb, hk⟩; refine ⟨_, rfl, ?_⟩; have n0_ := aM (KeepBut.trans (zK HK.out) hk (.inl rfl)); have n1_ := aM (hb); have n2_ := aM (hi); clear HK HB HI0; have HK := n0_; have HB := n1_; have HI0 := n2_; clear n0_ n1_ n2_; (try clear hb); (try clear hb2); (try clear hk); (try clear hi)) | ((with_reducible refine gate_callee (f := 38) rfl ?_); refine goesL_ (some 16) rfl rfl Try.func38 (by kernel_rfl) rfl #[.pointer (some ⟨g, 0, none⟩), .int .i64 5] rfl zm ?_; (with_reducible refine (spec_l01Next.calls g s0_0 t472 t473 5 t474 t475 t476 w0 _ ?side1 ?side2 A4.out).mono ?_); (case side1 => exact zI79 HI0.out); (case side2 => exact zs (IsS79.ge HI0.out)); rintro e w8 ⟨rfl, hi, hb, hk⟩; refine ⟨_, rfl, ?_⟩; have n0_ := aM (KeepBut.trans (zK HK.out) hk (.inl rfl)); have n1_ := aM (hb); have n2_ := aM (hi); clear HK HB HI0; have HK := n0_; have HB := n1_; have HI0 := n2_; clear n0_ n1_ n2_; (try clear hb); (try clear hb2); (try clear hk); (try clear hi)) | ((with_reducible refine gate_dst (N := 19) rfl ?_); refine Kd.R_lit k63 _ 63 ?hg (N := 19) ?hd (xs := ([(⟨wrap64 (t468 - 2), wrap64 (t471 - 2), wrap64 (t474 - 2)⟩ : S63)] : List (S63))) (inner := [.int .i64 (wrap64 (t468 - 2)), .int .i64 (wrap64 (t471 - 2)), .int .i64 (wrap64 (t474 - 2))]) (ok := fun _ => True) (okp := fun _ => True) ?hr ?hp (fun _ hk => hk) trivial (Below.refl _ _) (Nat.le_refl _) (by simp) ?_; (case hd => rfl); (case hg => rfl); (case hr => first | (go_simp; done) | (go_simp; rfl)); (case hp => exact (Reps.c3 (show Kd.M k63 _ _ _ (⟨wrap64 (t468 - 2), wrap64 (t471 - 2), wrap64 (t474 - 2)⟩ : S63) [.int .i64 (wrap64 (t468 - 2)), .int .i64 (wrap64 (t471 - 2)), .int .i64 (wrap64 (t474 - 2))] from (k63_mkM _ _ _ (⟨wrap64 (t468 - 2), wrap64 (t471 - 2), wrap64 (t474 - 2)⟩ : S63) )) (Reps.none _ _))); intro v478 w9 ho10 hb hg_ hnew_; clear hg_ hnew_; (first | rw [← Ny477.out] at ho10 | (simp only [Int.reduceToNat] at ho10; rw [← Ny477.out] at ho10)); have n0_ := aM (Kd.R_lower ho10 (keep_size (w := w) (g := g) (row := none) (zK HK.out))); have n1_ := aM (IsS79.below (zI79 HI0.out) hb); have n2_ := aM (KeepBut.trans (zK HK.out) (KeepBut.of_below hb g none) (.inl rfl)); have n3_ := aM (below_step (zs (IsS79.ge HI0.out)) hb); clear HI0 HK HB; have HO479 := n0_; have HI0 := n1_; have HK := n2_; have HB := n3_; clear n0_ n1_ n2_ n3_; clear hb ho10) | ((with_reducible refine gate_callee (f := 38) rfl ?_); refine goesL_ (some 21) rfl rfl Try.func38 (by kernel_rfl) rfl #[.pointer (some ⟨g, 0, none⟩), .int .i64 7] rfl zm ?_; (with_reducible refine (spec_l01Next.calls g s0_0 t475 t476 7 t480 t481 t482 w0 _ ?side1 ?side2 A5.out).mono ?_); (case side1 => exact zI79 HI0.out); (case side2 => exact zs (IsS79.ge HI0.out)); rintro e w11 ⟨rfl, hi, hb, hk⟩; refine ⟨_, rfl, ?_⟩; have n0_ := aM (Kd.R_mono (Kd.R_keep (IsS79.apart (show IsS79 w0 _ g s0_0 t475 t476 from zI79 HI0.out) (mR_ HO479.out) (by decide)) hk (fun _ h => h.2)) (fun _ h => h.1)); have n1_ := aM (KeepBut.trans (zK HK.out) hk (.inl rfl)); have n2_ := aM (hb); have n3_ := aM (hi); clear HO479 HK HB HI0; have HO479 := n0_; have HK := n1_; have HB := n2_; have HI0 := n3_; clear n0_ n1_ n2_ n3_; (try clear hb); (try clear hb2); (try clear hk); (try clear hi)))
 go_loopg [3, 4] k (fun kq v3 v4 w' => ∃ (x3_1 : List (S63)) (x4_1 : Int) (x1001_1 : Int) (x1002_1 : Int), v4 = .int .i64 x4_1 ∧ Aside0 (spec_l09Draw.l0 kq x3_1 x4_1 s0_0 x1001_1 x1002_1 = some (r1, r2, r3)) ∧ Aside0 (kq ≤ k) ∧ Aside0 (Kd.R k63 63 w' w.heap.size (fun _ => True) v3 x3_1) ∧ Aside0 (IsS79 w0 w' g s0_0 x1001_1 x1002_1) ∧ Aside0 (KeepBut w w' g none) ∧ Aside0 (Below w0.heap.size w0 w'))
 case atStart => exact ⟨(y477), (t480), (t481), (t482), zr, H', ⟨Nat.le_refl _⟩, ⟨mR_ HO479.out⟩, ⟨zI79 HI0.out⟩, ⟨zK HK.out⟩, ⟨zs (IsS79.ge HI0.out)⟩⟩
 case round =>
  clear H'
  try clear p2
  try clear c3
  try clear p6
  obtain ⟨x3_1, x4_1, x1001_1, x1002_1, rfl, HA, HK1, HO_3, HI0, HK, HB⟩ := hrel
  cases gk with
  | zero => exact absurd HA.out (by simp [spec_l09Draw.l0])
  | succ k1 =>
   have H := HA.out
   clear HA
   simp only [spec_l09Draw.l0] at H
   by_cases c12 : x4_1 > 0
   rotate_left
   ·rw [if_neg c12] at H
    have c12b0 : decide (0 < x4_1) = false := decide_eq_false c12
    clear c12
    replace H := Option.bind_eq_some_iff.mp H
    obtain ⟨⟨t505, t506, t507⟩, A590, H⟩ := H
    replace H : ((spec_l01Next.f s0_0 t506 t507 24).bind fun bt508 => (if bt508.1 = 0 then ((some (([(-100), 100, 101] : List Int) : List Int)).bind fun y511 => ((spec_l01Next.f s0_0 bt508.2.1 bt508.2.2 3).bind fun bt514 => (if 0 ≤ bt514.1 then (if bt514.1 < (y511.length : Int) then (if 0 ≤ t505 then (if t505 < (x3_1.length : Int) then ((spec_l09Sort.f k1 (x3_1.set (t505 : Int).toNat (⟨(rd_T63 x3_1 t505).f0, (rd_T63 x3_1 t505).f1, rd y511 bt514.1⟩ : S63))).bind fun t519 => (some (t519, bt514.2.1, bt514.2.2))) else (none)) else (none)) else (none)) else (none)))) else (if bt508.1 = 1 then (if 0 ≤ t505 then (if t505 < (x3_1.length : Int) then (if x3_1.length < 5864062014805 then (some ((x3_1 ++ [(⟨(rd_T63 x3_1 t505).f0, (rd_T63 x3_1 t505).f1, (rd_T63 x3_1 t505).f2⟩ : S63)]), bt508.2.1, bt508.2.2)) else (none)) else (none)) else (none)) else (if bt508.1 = 2 then (some (([] : List (S63)), bt508.2.1, bt508.2.2)) else (if bt508.1 = 3 then (if 0 ≤ (wrap64 ((x3_1.length : Int) - 1)) then (if (wrap64 ((x3_1.length : Int) - 1)) < (x3_1.length : Int) then (if x3_1.length < 5864062014805 then (some ((x3_1 ++ [(⟨0, 0, wrap64 (((rd_T63 x3_1 (wrap64 ((x3_1.length : Int) - 1))).f2) + 2)⟩ : S63)]), bt508.2.1, bt508.2.2)) else (none)) else (none)) else (none)) else (if bt508.1 = 4 then (spec_l09Draw.l1 k1 (([] : List (S63))) 0 s0_0 bt508.2.1 bt508.2.2) else (if bt508.1 = 5 then ((spec_l01Next.f s0_0 bt508.2.1 bt508.2.2 2).bind fun bt539 => (some ((([(⟨0, 0, (-60)⟩ : S63), (⟨0, 0, wrap64 (40 + bt539.1)⟩ : S63)] : List (S63))), bt539.2.1, bt539.2.2))) else (some (x3_1, bt508.2.1, bt508.2.2))))))))) = some (r1, r2, r3) := H
    have A59 := aM A590
    clear A590
    replace H := Option.bind_eq_some_iff.mp H
    obtain ⟨⟨t508, t509, t510⟩, A600, H⟩ := H
    replace H : (if t508 = 0 then ((some (([(-100), 100, 101] : List Int) : List Int)).bind fun y511 => ((spec_l01Next.f s0_0 t509 t510 3).bind fun bt514 => (if 0 ≤ bt514.1 then (if bt514.1 < (y511.length : Int) then (if 0 ≤ t505 then (if t505 < (x3_1.length : Int) then ((spec_l09Sort.f k1 (x3_1.set (t505 : Int).toNat (⟨(rd_T63 x3_1 t505).f0, (rd_T63 x3_1 t505).f1, rd y511 bt514.1⟩ : S63))).bind fun t519 => (some (t519, bt514.2.1, bt514.2.2))) else (none)) else (none)) else (none)) else (none)))) else (if t508 = 1 then (if 0 ≤ t505 then (if t505 < (x3_1.length : Int) then (if x3_1.length < 5864062014805 then (some ((x3_1 ++ [(⟨(rd_T63 x3_1 t505).f0, (rd_T63 x3_1 t505).f1, (rd_T63 x3_1 t505).f2⟩ : S63)]), t509, t510)) else (none)) else (none)) else (none)) else (if t508 = 2 then (some (([] : List (S63)), t509, t510)) else (if t508 = 3 then (if 0 ≤ (wrap64 ((x3_1.length : Int) - 1)) then (if (wrap64 ((x3_1.length : Int) - 1)) < (x3_1.length : Int) then (if x3_1.length < 5864062014805 then (some ((x3_1 ++ [(⟨0, 0, wrap64 (((rd_T63 x3_1 (wrap64 ((x3_1.length : Int) - 1))).f2) + 2)⟩ : S63)]), t509, t510)) else (none)) else (none)) else (none)) else (if t508 = 4 then (spec_l09Draw.l1 k1 (([] : List (S63))) 0 s0_0 t509 t510) else (if t508 = 5 then ((spec_l01Next.f s0_0 t509 t510 2).bind fun bt539 => (some ((([(⟨0, 0, (-60)⟩ : S63), (⟨0, 0, wrap64 (40 + bt539.1)⟩ : S63)] : List (S63))), bt539.2.1, bt539.2.2))) else (some (x3_1, t509, t510)))))))) = some (r1, r2, r3) := H
    have A60 := aM A600
    clear A600
    by_cases c61 : t508 = 0
    ·rw [if_pos c61] at H
     have c61b0 : (t508 == 0) = true := beq_iff_eq.mpr c61
     have c61b1 : (t508 != 0) = false := bne_eq_false_iff_eq.mpr c61
     clear c61
     obtain ⟨y511, hy511⟩ : ∃ y_ : List Int, y_ = (([(-100), 100, 101] : List Int)) := ⟨_, rfl⟩
     replace H : ((spec_l01Next.f s0_0 t509 t510 3).bind fun bt514 => (if 0 ≤ bt514.1 then (if bt514.1 < (y511.length : Int) then (if 0 ≤ t505 then (if t505 < (x3_1.length : Int) then ((spec_l09Sort.f k1 (x3_1.set (t505 : Int).toNat (⟨(rd_T63 x3_1 t505).f0, (rd_T63 x3_1 t505).f1, rd y511 bt514.1⟩ : S63))).bind fun t519 => (some (t519, bt514.2.1, bt514.2.2))) else (none)) else (none)) else (none)) else (none))) = some (r1, r2, r3) := zy H hy511
     have Ny511 := aM hy511
     clear hy511
     replace H := Option.bind_eq_some_iff.mp H
     obtain ⟨⟨t514, t515, t516⟩, A620, H⟩ := H
     replace H : (if 0 ≤ t514 then (if t514 < (y511.length : Int) then (if 0 ≤ t505 then (if t505 < (x3_1.length : Int) then ((spec_l09Sort.f k1 (x3_1.set (t505 : Int).toNat (⟨(rd_T63 x3_1 t505).f0, (rd_T63 x3_1 t505).f1, rd y511 t514⟩ : S63))).bind fun t519 => (some (t519, t515, t516))) else (none)) else (none)) else (none)) else (none)) = some (r1, r2, r3) := H
     have A62 := aM A620
     clear A620
     by_cases c63 : 0 ≤ t514
     rotate_left
     ·rw [if_neg c63] at H
      exact absurd H (by simp)
     rw [if_pos c63] at H
     have c63b0 : decide (0 ≤ t514) = true := decide_eq_true c63
     clear c63
     by_cases c64 : t514 < (y511.length : Int)
     rotate_left
     ·rw [if_neg c64] at H
      exact absurd H (by simp)
     rw [if_pos c64] at H
     have c64b0 : decide (t514 < (y511.length : Int)) = true := decide_eq_true c64
     clear c64
     by_cases c65 : 0 ≤ t505
     rotate_left
     ·rw [if_neg c65] at H
      exact absurd H (by simp)
     rw [if_pos c65] at H
     have c65b0 : decide (0 ≤ t505) = true := decide_eq_true c65
     clear c65
     by_cases c66 : t505 < (x3_1.length : Int)
     rotate_left
     ·rw [if_neg c66] at H
      exact absurd H (by simp)
     rw [if_pos c66] at H
     have c66b0 : decide (t505 < (x3_1.length : Int)) = true := decide_eq_true c66
     clear c66
     obtain ⟨y518, hy518⟩ : ∃ y_ : List (S63), y_ = (x3_1.set (t505 : Int).toNat (⟨(rd_T63 x3_1 t505).f0, (rd_T63 x3_1 t505).f1, rd y511 t514⟩ : S63)) := ⟨_, rfl⟩
     replace H : ((spec_l09Sort.f k1 y518).bind fun t519 => (some (t519, t515, t516))) = some (r1, r2, r3) := zy H hy518
     have Ny518 := aM hy518
     clear hy518
     replace H := Option.bind_eq_some_iff.mp H
     obtain ⟨t519, A680, H⟩ := H
     replace H : (some (t519, t515, t516)) = some (r1, r2, r3) := H
     have A68 := aM A680
     clear A680
     simp only [Option.some.injEq, Prod.mk.injEq] at H
     obtain ⟨rfl, rfl, rfl⟩ := H
     obtain ⟨Ao69, co69, eo69⟩ := Kd.R_slice HO_3.out
     subst eo69
     go_wp2_with (first | ((with_reducible refine gate_callee (f := 38) rfl ?_); refine goesL_ (some 51) rfl rfl Try.func38 (by kernel_rfl) rfl #[.pointer (some ⟨g, 0, none⟩), .int .i64 (x3_1.length : Int)] rfl zm ?_; (with_reducible refine (spec_l01Next.calls g s0_0 x1001_1 x1002_1 (x3_1.length : Int) t505 t506 t507 w0 _ ?side1 ?side2 A59.out).mono ?_); (case side1 => exact zI79 HI0.out); (case side2 => exact zs (IsS79.ge HI0.out)); rintro e w70 ⟨rfl, hi, hb, hk⟩; refine ⟨_, rfl, ?_⟩; have n0_ := aM (Kd.R_mono (Kd.R_keep (IsS79.apart (show IsS79 w0 _ g s0_0 x1001_1 x1002_1 from zI79 HI0.out) (mR_ HO_3.out) (by decide)) hk (fun _ h => h.2)) (fun _ h => h.1)); have n1_ := aM (KeepBut.trans (zK HK.out) hk (.inl rfl)); have n2_ := aM (hb); have n3_ := aM (hi); clear HO_3 HK HB HI0; have HO_3 := n0_; have HK := n1_; have HB := n2_; have HI0 := n3_; clear n0_ n1_ n2_ n3_; (try clear hb); (try clear hb2); (try clear hk); (try clear hi)) | ((with_reducible refine gate_callee (f := 38) rfl ?_); refine goesL_ (some 53) rfl rfl Try.func38 (by kernel_rfl) rfl #[.pointer (some ⟨g, 0, none⟩), .int .i64 24] rfl zm ?_; (with_reducible refine (spec_l01Next.calls g s0_0 t506 t507 24 t508 t509 t510 w0 _ ?side1 ?side2 A60.out).mono ?_); (case side1 => exact zI79 HI0.out); (case side2 => exact zs (IsS79.ge HI0.out)); rintro e w71 ⟨rfl, hi, hb, hk⟩; refine ⟨_, rfl, ?_⟩; have n0_ := aM (Kd.R_mono (Kd.R_keep (IsS79.apart (show IsS79 w0 _ g s0_0 t506 t507 from zI79 HI0.out) (mR_ HO_3.out) (by decide)) hk (fun _ h => h.2)) (fun _ h => h.1)); have n1_ := aM (KeepBut.trans (zK HK.out) hk (.inl rfl)); have n2_ := aM (hb); have n3_ := aM (hi); clear HO_3 HK HB HI0; have HO_3 := n0_; have HK := n1_; have HB := n2_; have HI0 := n3_; clear n0_ n1_ n2_ n3_; (try clear hb); (try clear hb2); (try clear hk); (try clear hi)) | ((with_reducible refine gate_dst (N := 58) rfl ?_); refine Kd.R_lit (Kd.int .i64) _ 2 ?hg (N := 58) ?hd (xs := ([(-100), 100, 101] : List Int)) (inner := [.int .i64 (-100), .int .i64 100, .int .i64 101]) (ok := fun _ => True) (okp := fun _ => True) ?hr ?hp (fun _ hk => hk) trivial (Below.refl _ _) (Nat.le_refl _) (by simp) ?_; (case hd => rfl); (case hg => rfl); (case hr => first | (go_simp; done) | (go_simp; rfl)); (case hp => exact (Reps.one (show Kd.M (Kd.int .i64) _ _ _ (-100) [.int .i64 (-100)] from rfl) (Reps.one (show Kd.M (Kd.int .i64) _ _ _ 100 [.int .i64 100] from rfl) (Reps.one (show Kd.M (Kd.int .i64) _ _ _ 101 [.int .i64 101] from rfl) (Reps.none _ _))))); intro v512 w72 ho73 hb hg_ hnew_; clear hg_ hnew_; (first | rw [← Ny511.out] at ho73 | (simp only [Int.reduceToNat] at ho73; rw [← Ny511.out] at ho73)); have n0_ := aM (Kd.R_below (mR_ HO_3.out) hb); have n1_ := aM (Kd.R_lower ho73 (keep_size (w := w) (g := g) (row := none) (zK HK.out))); have n2_ := aM (IsS79.below (zI79 HI0.out) hb); have n3_ := aM (KeepBut.trans (zK HK.out) (KeepBut.of_below hb g none) (.inl rfl)); have n4_ := aM (below_step (zs (IsS79.ge HI0.out)) hb); clear HO_3 HI0 HK HB; have HO_3 := n0_; have HO513 := n1_; have HI0 := n2_; have HK := n3_; have HB := n4_; clear n0_ n1_ n2_ n3_ n4_; clear hb ho73) | ((with_reducible refine gate_callee (f := 38) rfl ?_); refine goesL_ (some 60) rfl rfl Try.func38 (by kernel_rfl) rfl #[.pointer (some ⟨g, 0, none⟩), .int .i64 3] rfl zm ?_; (with_reducible refine (spec_l01Next.calls g s0_0 t509 t510 3 t514 t515 t516 w0 _ ?side1 ?side2 A62.out).mono ?_); (case side1 => exact zI79 HI0.out); (case side2 => exact zs (IsS79.ge HI0.out)); rintro e w74 ⟨rfl, hi, hb, hk⟩; refine ⟨_, rfl, ?_⟩; have n0_ := aM (Kd.R_mono (Kd.R_keep (IsS79.apart (show IsS79 w0 _ g s0_0 t509 t510 from zI79 HI0.out) (mR_ HO_3.out) (by decide)) hk (fun _ h => h.2)) (fun _ h => h.1)); have n1_ := aM (Kd.R_mono (Kd.R_keep (IsS79.apart (show IsS79 w0 _ g s0_0 t509 t510 from zI79 HI0.out) (mR_ HO513.out) (by decide)) hk (fun _ h => h.2)) (fun _ h => h.1)); have n2_ := aM (KeepBut.trans (zK HK.out) hk (.inl rfl)); have n3_ := aM (hb); have n4_ := aM (hi); clear HO_3 HO513 HK HB HI0; have HO_3 := n0_; have HO513 := n1_; have HK := n2_; have HB := n3_; have HI0 := n4_; clear n0_ n1_ n2_ n3_ n4_; (try clear hb); (try clear hb2); (try clear hk); (try clear hi); obtain ⟨Ao75, co75, eo75⟩ := Kd.R_slice HO513.out; subst eo75; have p517 : 0 ≤ (t514 : Int) := of_decide_eq_true za; have q517 : t514 < (y511.length : Int) := of_decide_eq_true za; obtain ⟨ad517, e517, hx517_0⟩ := Kd.at_int (Kd.R_reads' HO513.out).2.2 t514 p517 q517; cases e517; replace p517 := eq_true p517; replace q517 := eq_true q517; have p67 : 0 ≤ (t505 : Int) := of_decide_eq_true za; have q67 : (t505 : Int) < ((x3_1.length : Int) : Int) := of_decide_eq_true za; obtain ⟨go67, co67, eo67, gb67, gl67, cl67, HG67⟩ := Kd.R_form HO_3.out (by omega); (first | cases eo67 | (injection eo67 with ea_ en_ ec_; (first | subst ea_ | (injection ea_ with ea_; subst ea_)); subst ec_; clear en_)); have GB67 := aM gb67; have GG67 := aM HG67; clear gb67 gl67 HG67; obtain ⟨ce67, hcl67, hM67, hcc67, hfr67⟩ := Kd.R_elem HO_3.out z63 (t505 : Int) p67 q67; obtain rfl := k63_openM hM67; have hx67_0 : w74.cell? ⟨go67, (t505 : Int).toNat * 3, none⟩ = some (.int .i64 ((rd_T63 x3_1 t505).f0)) := hcc67 0 _ rfl; have hx67_1 : w74.cell? ⟨go67, (t505 : Int).toNat * 3 + 1, none⟩ = some (.int .i64 ((rd_T63 x3_1 t505).f1)) := hcc67 1 _ rfl; have hx67_2 : w74.cell? ⟨go67, (t505 : Int).toNat * 3 + 2, none⟩ = some (.int .i64 ((rd_T63 x3_1 t505).f2)) := hcc67 2 _ rfl; have hf67_0 : w74.frozen? ⟨go67, (t505 : Int).toNat * 3, none⟩ = false := hfr67 0; have hf67_1 : w74.frozen? ⟨go67, (t505 : Int).toNat * 3 + 1, none⟩ = false := hfr67 1; have hf67_2 : w74.frozen? ⟨go67, (t505 : Int).toNat * 3 + 2, none⟩ = false := hfr67 2; clear hcl67 hcc67 hfr67 hM67; replace p67 := eq_true p67; replace q67 := eq_true q67; have HX76 := aM (show Kd.R k63 63 w74 w.heap.size (fun _ => True) (.slice (some ⟨go67, 0, none⟩) x3_1.length co69) x3_1 from (mR_ HO_3.out)); obtain ⟨ce76, hcl76, hM76, hcc76, hfr76⟩ := Kd.R_elem HX76.out z63 (t505 : Int) (of_decide_eq_true za) (by have h_ : (t505 : Int) < ((x3_1.length : Int) : Int) := of_decide_eq_true za; first | exact h_ | (have e_ := (Kd.R_reads' HO_3.out).1; omega) | simpa using h_); obtain rfl := k63_openM hM76; have HP76 := Kd.R_seg HX76.out (t505 : Int) (of_decide_eq_true za) (by have h_ : (t505 : Int) < ((x3_1.length : Int) : Int) := of_decide_eq_true za; first | exact h_ | (have e_ := (Kd.R_reads' HO_3.out).1; omega) | simpa using h_) (seg := [.int .i64 (rd y511 t514)]) (j := 2) hcl76 hcc76 (show 3 ≤ 3 from by decide) (x' := (⟨(rd_T63 x3_1 t505).f0, (rd_T63 x3_1 t505).f1, rd y511 t514⟩ : S63)) (k63_mkM _ _ _ (⟨(rd_T63 x3_1 t505).f0, (rd_T63 x3_1 t505).f1, rd y511 t514⟩ : S63) ) (fun _ hk => hk); have hx76_2 := hcc76 2 _ rfl; (try simp only [show (k63).sz = 3 from rfl, Nat.mul_one, Nat.add_zero] at hx76_2); have hf76_2 := hfr76 2; (try simp only [show (k63).sz = 3 from rfl, Nat.mul_one, Nat.add_zero] at hf76_2); clear hcl76 hcc76 hfr76 hM76) | ((with_reducible refine gate_store (t := 2) (p := 64) rfl ?_); refine store_event (t := 2) (p := 64) (v := ?vo_w77) (w1 := (w74.setCell ⟨go67, (t505 : Int).toNat * 3 + 2, none⟩ (.int .i64 (rd y511 t514)))) ?hg ?ho ?hn ?hr ?_; (case ho => rfl); (case hg => rfl); (case hn => rfl); (case hr => first | (go_simp; done) | (go_simp; rfl)); intro w77 hw; have hg : w74.grownBy w77 (some go67) := (by rw [hw]; exact HP76.2); have hp_ : Kd.R k63 63 w77 w.heap.size (fun _ => True) (.slice (some ⟨go67, 0, none⟩) x3_1.length co69) y518 := (by rw [hw, Ny518.out]; exact HP76.1); clear HP76; have n0_ := aM (hp_); have n1_ := aM (IsS79.grown (zI79 HI0.out) hg (IsS79.own_ne HI0.out HO_3.out (by decide))); have n2_ := aM (Kd.R_over' (v := (.slice (some ⟨go67, 0, none⟩) x3_1.length co69)) (mR_ HO513.out) (Kd.R_typed HO_3.out) (by decide) hg); have n3_ := aM ((by rw [hw]; exact below_set (HB.out) (Nat.le_trans HL.out GB67.out) : Below w0.heap.size w0 w77)); have n4_ := aM (KeepBut.trans (zK HK.out) (KeepBut.of_grown hg g) (Kd.R_base2 HO_3.out)); clear HO_3 HI0 HO513 HB HK; have HO_3 := n0_; have HI0 := n1_; have HO513 := n2_; have HB := n3_; have HK := n4_; clear n0_ n1_ n2_ n3_ n4_; clear hg hw hp_) | ((with_reducible refine gate_callee (f := 57) rfl ?_); refine goesL_ (some 66) rfl rfl Try.func57 (by kernel_rfl) rfl #[.slice (some ⟨go67, 0, none⟩) y518.length co69] rfl (by (try simp only [mA, mB, mC]); first | done | (rw [show y518.length = x3_1.length from (Kd.R_reads' HO_3.out).1.symm] <;> rfl) | rfl | (simp only [lD, lT]; rfl)) ?_; (with_reducible refine (spec_l09Sort.calls k1 _ _ y518 t519 _ ?side1 ?side2 A68.out).mono ?_); (case side1 => exact zc HO_3.out); (case side2 => rw [show y518.length = x3_1.length from (Kd.R_reads' HO_3.out).1.symm]; exact (Kd.R_reads' HO_3.out).2.1); rintro e w78 ⟨v520, rfl, ho0, hb⟩; refine ⟨_, rfl, ?_⟩; have n0_ := aM (Kd.R_elder' (mR_ HO_3.out) (Kd.R_base ho0) hb); have n1_ := aM (Kd.R_below (mR_ HO513.out) hb); have n2_ := aM (Kd.R_lower (Kd.R_new' ho0 (Kd.R_lt (mR_ HO_3.out))) (keep_size (w := w) (g := g) (row := none) (zK HK.out))); have n3_ := aM (IsS79.below (zI79 HI0.out) hb); have n4_ := aM (KeepBut.trans (zK HK.out) (KeepBut.of_below hb g none) (.inl rfl)); have n5_ := aM (below_step (zs (IsS79.ge HI0.out)) hb); clear HO_3 HO513 HI0 HK HB; have HO_3 := n0_; have HO513 := n1_; have HO521 := n2_; have HI0 := n3_; have HK := n4_; have HB := n5_; clear n0_ n1_ n2_ n3_ n4_ n5_; (try clear hb); (try clear hb2); (try clear hk); (try clear hi); (try clear ho0)))
     go_ret
     exact ⟨_, zw, zd1 HO521.out, zI79 HI0.out, zs (IsS79.ge HI0.out), zK HK.out⟩
    rw [if_neg c61] at H
    have c61b0 : (t508 == 0) = false := beq_eq_false_iff_ne.mpr c61
    have c61b1 : (t508 != 0) = true := bne_iff_ne.mpr c61
    by_cases c79 : t508 = 1
    ·rw [if_pos c79] at H
     have c79b0 : (t508 == 1) = true := beq_iff_eq.mpr c79
     have c79b1 : (t508 != 1) = false := bne_eq_false_iff_eq.mpr c79
     clear c79
     by_cases c80 : 0 ≤ t505
     rotate_left
     ·rw [if_neg c80] at H
      exact absurd H (by simp)
     rw [if_pos c80] at H
     have c80b0 : decide (0 ≤ t505) = true := decide_eq_true c80
     clear c80
     by_cases c81 : t505 < (x3_1.length : Int)
     rotate_left
     ·rw [if_neg c81] at H
      exact absurd H (by simp)
     rw [if_pos c81] at H
     have c81b0 : decide (t505 < (x3_1.length : Int)) = true := decide_eq_true c81
     clear c81
     by_cases c82 : x3_1.length < 5864062014805
     rotate_left
     ·rw [if_neg c82] at H
      exact absurd H (by simp)
     rw [if_pos c82] at H
     have LMc82 := aM c82
     clear c82
     obtain ⟨y523, hy523⟩ : ∃ y_ : List (S63), y_ = (x3_1 ++ [(⟨(rd_T63 x3_1 t505).f0, (rd_T63 x3_1 t505).f1, (rd_T63 x3_1 t505).f2⟩ : S63)]) := ⟨_, rfl⟩
     replace H : (some (y523, t509, t510)) = some (r1, r2, r3) := zy H hy523
     have Ny523 := aM hy523
     clear hy523
     simp only [Option.some.injEq, Prod.mk.injEq] at H
     obtain ⟨rfl, rfl, rfl⟩ := H
     obtain ⟨Ao83, co83, eo83⟩ := Kd.R_slice HO_3.out
     subst eo83
     go_wp2_with (first | ((with_reducible refine gate_callee (f := 38) rfl ?_); refine goesL_ (some 51) rfl rfl Try.func38 (by kernel_rfl) rfl #[.pointer (some ⟨g, 0, none⟩), .int .i64 (x3_1.length : Int)] rfl zm ?_; (with_reducible refine (spec_l01Next.calls g s0_0 x1001_1 x1002_1 (x3_1.length : Int) t505 t506 t507 w0 _ ?side1 ?side2 A59.out).mono ?_); (case side1 => exact zI79 HI0.out); (case side2 => exact zs (IsS79.ge HI0.out)); rintro e w84 ⟨rfl, hi, hb, hk⟩; refine ⟨_, rfl, ?_⟩; have n0_ := aM (Kd.R_mono (Kd.R_keep (IsS79.apart (show IsS79 w0 _ g s0_0 x1001_1 x1002_1 from zI79 HI0.out) (mR_ HO_3.out) (by decide)) hk (fun _ h => h.2)) (fun _ h => h.1)); have n1_ := aM (KeepBut.trans (zK HK.out) hk (.inl rfl)); have n2_ := aM (hb); have n3_ := aM (hi); clear HO_3 HK HB HI0; have HO_3 := n0_; have HK := n1_; have HB := n2_; have HI0 := n3_; clear n0_ n1_ n2_ n3_; (try clear hb); (try clear hb2); (try clear hk); (try clear hi)) | ((with_reducible refine gate_callee (f := 38) rfl ?_); refine goesL_ (some 53) rfl rfl Try.func38 (by kernel_rfl) rfl #[.pointer (some ⟨g, 0, none⟩), .int .i64 24] rfl zm ?_; (with_reducible refine (spec_l01Next.calls g s0_0 t506 t507 24 t508 t509 t510 w0 _ ?side1 ?side2 A60.out).mono ?_); (case side1 => exact zI79 HI0.out); (case side2 => exact zs (IsS79.ge HI0.out)); rintro e w85 ⟨rfl, hi, hb, hk⟩; refine ⟨_, rfl, ?_⟩; have n0_ := aM (Kd.R_mono (Kd.R_keep (IsS79.apart (show IsS79 w0 _ g s0_0 t506 t507 from zI79 HI0.out) (mR_ HO_3.out) (by decide)) hk (fun _ h => h.2)) (fun _ h => h.1)); have n1_ := aM (KeepBut.trans (zK HK.out) hk (.inl rfl)); have n2_ := aM (hb); have n3_ := aM (hi); clear HO_3 HK HB HI0; have HO_3 := n0_; have HK := n1_; have HB := n2_; have HI0 := n3_; clear n0_ n1_ n2_ n3_; (try clear hb); (try clear hb2); (try clear hk); (try clear hi); have p522 : 0 ≤ (t505 : Int) := of_decide_eq_true za; have q522 : t505 < (x3_1.length : Int) := of_decide_eq_true za; obtain ⟨ad522, e522, hx522_0, hx522_1, hx522_2⟩ := at_T63 (Kd.R_reads' HO_3.out).2.2 t505 p522 q522; cases e522; replace p522 := eq_true p522; replace q522 := eq_true q522) | ((with_reducible refine gate_builtin (b := .append) (xs := #[.tmp 69, .tmp 74]) rfl ?_); at_builtin; refine Kd.R_append k63 w.heap.size rfl (.tmp 69) (.tmp 74) 34 63 (.agg #[(.int .i64 0), (.int .i64 0), (.int .i64 0)]) 24 rfl Try.underlying34 info63 rfl (by decide) (by omega) (.slice (some ad522) x3_1.length co83) x3_1 (⟨(rd_T63 x3_1 t505).f0, (rd_T63 x3_1 t505).f1, (rd_T63 x3_1 t505).f2⟩ : S63) [.int .i64 ((rd_T63 x3_1 t505).f0), .int .i64 ((rd_T63 x3_1 t505).f1), .int .i64 ((rd_T63 x3_1 t505).f2)] (fun _ => True) (fun _ => False) rfl rfl ?aP (fun _ hk => hk.elim) ?aF ?aO (Below.refl _ _) ?aS ?aL ?_; (case aP => exact k63_mkM _ _ _ (⟨(rd_T63 x3_1 t505).f0, (rd_T63 x3_1 t505).f1, (rd_T63 x3_1 t505).f2⟩ : S63)); (case aF => exact (fun _ _ => trivial)); (case aO => exact (mR_ HO_3.out)); (case aS => exact (keep_size (w := w) (g := g) (row := none) (zK HK.out))); (case aL => have := LMc82.out; omega); intro v524 w86 ho hb hg hat; rw [← Ny523.out] at ho; have n0_ := aM (IsS79.grown (zI79 HI0.out) hg (IsS79.own_ne HI0.out HO_3.out (by decide))); have n1_ := aM (below_weaken (zs (IsS79.ge HI0.out)) HL.out hb); have n2_ := aM (KeepBut.trans (zK HK.out) (KeepBut.of_grown hg g) (Kd.R_base2 HO_3.out)); have n3_ := aM (ho); clear HI0 HB HK HO_3; have HI0 := n0_; have HB := n1_; have HK := n2_; have HO525 := n3_; clear n0_ n1_ n2_ n3_; clear ho hb hg hat))
     go_ret
     exact ⟨_, zw, mR_ HO525.out, zI79 HI0.out, zs (IsS79.ge HI0.out), zK HK.out⟩
    rw [if_neg c79] at H
    have c79b0 : (t508 == 1) = false := beq_eq_false_iff_ne.mpr c79
    have c79b1 : (t508 != 1) = true := bne_iff_ne.mpr c79
    by_cases c87 : t508 = 2
    ·rw [if_pos c87] at H
     have c87b0 : (t508 == 2) = true := beq_iff_eq.mpr c87
     have c87b1 : (t508 != 2) = false := bne_eq_false_iff_eq.mpr c87
     clear c87
     simp only [Option.some.injEq, Prod.mk.injEq] at H
     obtain ⟨rfl, rfl, rfl⟩ := H
     obtain ⟨Ao88, co88, eo88⟩ := Kd.R_slice HO_3.out
     subst eo88
     go_wp2_with (first | ((with_reducible refine gate_callee (f := 38) rfl ?_); refine goesL_ (some 51) rfl rfl Try.func38 (by kernel_rfl) rfl #[.pointer (some ⟨g, 0, none⟩), .int .i64 (x3_1.length : Int)] rfl zm ?_; (with_reducible refine (spec_l01Next.calls g s0_0 x1001_1 x1002_1 (x3_1.length : Int) t505 t506 t507 w0 _ ?side1 ?side2 A59.out).mono ?_); (case side1 => exact zI79 HI0.out); (case side2 => exact zs (IsS79.ge HI0.out)); rintro e w89 ⟨rfl, hi, hb, hk⟩; refine ⟨_, rfl, ?_⟩; have n0_ := aM (Kd.R_mono (Kd.R_keep (IsS79.apart (show IsS79 w0 _ g s0_0 x1001_1 x1002_1 from zI79 HI0.out) (mR_ HO_3.out) (by decide)) hk (fun _ h => h.2)) (fun _ h => h.1)); have n1_ := aM (KeepBut.trans (zK HK.out) hk (.inl rfl)); have n2_ := aM (hb); have n3_ := aM (hi); clear HO_3 HK HB HI0; have HO_3 := n0_; have HK := n1_; have HB := n2_; have HI0 := n3_; clear n0_ n1_ n2_ n3_; (try clear hb); (try clear hb2); (try clear hk); (try clear hi)) | ((with_reducible refine gate_callee (f := 38) rfl ?_); refine goesL_ (some 53) rfl rfl Try.func38 (by kernel_rfl) rfl #[.pointer (some ⟨g, 0, none⟩), .int .i64 24] rfl zm ?_; (with_reducible refine (spec_l01Next.calls g s0_0 t506 t507 24 t508 t509 t510 w0 _ ?side1 ?side2 A60.out).mono ?_); (case side1 => exact zI79 HI0.out); (case side2 => exact zs (IsS79.ge HI0.out)); rintro e w90 ⟨rfl, hi, hb, hk⟩; refine ⟨_, rfl, ?_⟩; have n0_ := aM (Kd.R_mono (Kd.R_keep (IsS79.apart (show IsS79 w0 _ g s0_0 t506 t507 from zI79 HI0.out) (mR_ HO_3.out) (by decide)) hk (fun _ h => h.2)) (fun _ h => h.1)); have n1_ := aM (KeepBut.trans (zK HK.out) hk (.inl rfl)); have n2_ := aM (hb); have n3_ := aM (hi); clear HO_3 HK HB HI0; have HO_3 := n0_; have HK := n1_; have HB := n2_; have HI0 := n3_; clear n0_ n1_ n2_ n3_; (try clear hb); (try clear hb2); (try clear hk); (try clear hi)))
     go_ret
     exact ⟨_, zw, by first | exact Kd.R_nil _ _ _ _ _ | exact Kd.N_nil _ _ _ _ _ | exact Kd.V_nil _ _ _ _ _ | exact Kd.Q_nil _ _ _ _ _ | exact Kd.S_nil _ _ _ _ _, zI79 HI0.out, zs (IsS79.ge HI0.out), zK HK.out⟩
    rw [if_neg c87] at H
    have c87b0 : (t508 == 2) = false := beq_eq_false_iff_ne.mpr c87
    have c87b1 : (t508 != 2) = true := bne_iff_ne.mpr c87
    by_cases c91 : t508 = 3
    ·rw [if_pos c91] at H
     have c91b0 : (t508 == 3) = true := beq_iff_eq.mpr c91
     have c91b1 : (t508 != 3) = false := bne_eq_false_iff_eq.mpr c91
     clear c91
     obtain ⟨ji92, hji92⟩ : ∃ j_ : Int, (wrap64 ((x3_1.length : Int) - 1)) = j_ := ⟨_, rfl⟩
     replace H : (if 0 ≤ (ji92) then (if (ji92) < (x3_1.length : Int) then (if x3_1.length < 5864062014805 then (some ((x3_1 ++ [(⟨0, 0, wrap64 (((rd_T63 x3_1 (ji92)).f2) + 2)⟩ : S63)]), t509, t510)) else (none)) else (none)) else (none)) = some (r1, r2, r3) := by first | (rw [hji92] at H; exact H) | (simp only [hji92] at H ⊢; exact H)
     (try rw [hji92] at A59)
     (try rw [hji92] at A60)
     have hji92w : (IntKind.i64.wrap ((x3_1.length : Int) - 1)) = ji92 := (i64_w _).trans hji92
     by_cases c93 : 0 ≤ (ji92)
     rotate_left
     ·rw [if_neg c93] at H
      exact absurd H (by simp)
     rw [if_pos c93] at H
     have c93b0 : decide (0 ≤ (ji92)) = true := decide_eq_true c93
     clear c93
     by_cases c94 : (ji92) < (x3_1.length : Int)
     rotate_left
     ·rw [if_neg c94] at H
      exact absurd H (by simp)
     rw [if_pos c94] at H
     have c94b0 : decide ((ji92) < (x3_1.length : Int)) = true := decide_eq_true c94
     clear c94
     by_cases c95 : x3_1.length < 5864062014805
     rotate_left
     ·rw [if_neg c95] at H
      exact absurd H (by simp)
     rw [if_pos c95] at H
     have LMc95 := aM c95
     clear c95
     obtain ⟨y527, hy527⟩ : ∃ y_ : List (S63), y_ = (x3_1 ++ [(⟨0, 0, wrap64 (((rd_T63 x3_1 (ji92)).f2) + 2)⟩ : S63)]) := ⟨_, rfl⟩
     replace H : (some (y527, t509, t510)) = some (r1, r2, r3) := zy H hy527
     have Ny527 := aM hy527
     clear hy527
     simp only [Option.some.injEq, Prod.mk.injEq] at H
     obtain ⟨rfl, rfl, rfl⟩ := H
     obtain ⟨Ao96, co96, eo96⟩ := Kd.R_slice HO_3.out
     subst eo96
     go_wp2_with (first | ((with_reducible refine gate_callee (f := 38) rfl ?_); refine goesL_ (some 51) rfl rfl Try.func38 (by kernel_rfl) rfl #[.pointer (some ⟨g, 0, none⟩), .int .i64 (x3_1.length : Int)] rfl zm ?_; (with_reducible refine (spec_l01Next.calls g s0_0 x1001_1 x1002_1 (x3_1.length : Int) t505 t506 t507 w0 _ ?side1 ?side2 A59.out).mono ?_); (case side1 => exact zI79 HI0.out); (case side2 => exact zs (IsS79.ge HI0.out)); rintro e w97 ⟨rfl, hi, hb, hk⟩; refine ⟨_, rfl, ?_⟩; have n0_ := aM (Kd.R_mono (Kd.R_keep (IsS79.apart (show IsS79 w0 _ g s0_0 x1001_1 x1002_1 from zI79 HI0.out) (mR_ HO_3.out) (by decide)) hk (fun _ h => h.2)) (fun _ h => h.1)); have n1_ := aM (KeepBut.trans (zK HK.out) hk (.inl rfl)); have n2_ := aM (hb); have n3_ := aM (hi); clear HO_3 HK HB HI0; have HO_3 := n0_; have HK := n1_; have HB := n2_; have HI0 := n3_; clear n0_ n1_ n2_ n3_; (try clear hb); (try clear hb2); (try clear hk); (try clear hi)) | ((with_reducible refine gate_callee (f := 38) rfl ?_); refine goesL_ (some 53) rfl rfl Try.func38 (by kernel_rfl) rfl #[.pointer (some ⟨g, 0, none⟩), .int .i64 24] rfl zm ?_; (with_reducible refine (spec_l01Next.calls g s0_0 t506 t507 24 t508 t509 t510 w0 _ ?side1 ?side2 A60.out).mono ?_); (case side1 => exact zI79 HI0.out); (case side2 => exact zs (IsS79.ge HI0.out)); rintro e w98 ⟨rfl, hi, hb, hk⟩; refine ⟨_, rfl, ?_⟩; have n0_ := aM (Kd.R_mono (Kd.R_keep (IsS79.apart (show IsS79 w0 _ g s0_0 t506 t507 from zI79 HI0.out) (mR_ HO_3.out) (by decide)) hk (fun _ h => h.2)) (fun _ h => h.1)); have n1_ := aM (KeepBut.trans (zK HK.out) hk (.inl rfl)); have n2_ := aM (hb); have n3_ := aM (hi); clear HO_3 HK HB HI0; have HO_3 := n0_; have HK := n1_; have HB := n2_; have HI0 := n3_; clear n0_ n1_ n2_ n3_; (try clear hb); (try clear hb2); (try clear hk); (try clear hi); have p526 : 0 ≤ ((ji92) : Int) := of_decide_eq_true za; have q526 : (ji92) < (x3_1.length : Int) := of_decide_eq_true za; obtain ⟨ad526, e526, hx526_0, hx526_1, hx526_2⟩ := at_T63 (Kd.R_reads' HO_3.out).2.2 (ji92) p526 q526; cases e526; replace p526 := eq_true p526; replace q526 := eq_true q526) | ((with_reducible refine gate_builtin (b := .append) (xs := #[.tmp 80, .tmp 90]) rfl ?_); at_builtin; refine Kd.R_append k63 w.heap.size rfl (.tmp 80) (.tmp 90) 34 63 (.agg #[(.int .i64 0), (.int .i64 0), (.int .i64 0)]) 24 rfl Try.underlying34 info63 rfl (by decide) (by omega) (.slice (some ad526) x3_1.length co96) x3_1 (⟨0, 0, wrap64 (((rd_T63 x3_1 (ji92)).f2) + 2)⟩ : S63) [.int .i64 0, .int .i64 0, .int .i64 (wrap64 (((rd_T63 x3_1 (ji92)).f2) + 2))] (fun _ => True) (fun _ => False) rfl rfl ?aP (fun _ hk => hk.elim) ?aF ?aO (Below.refl _ _) ?aS ?aL ?_; (case aP => exact k63_mkM _ _ _ (⟨0, 0, wrap64 (((rd_T63 x3_1 (ji92)).f2) + 2)⟩ : S63)); (case aF => exact (fun _ _ => trivial)); (case aO => exact (mR_ HO_3.out)); (case aS => exact (keep_size (w := w) (g := g) (row := none) (zK HK.out))); (case aL => have := LMc95.out; omega); intro v528 w99 ho hb hg hat; rw [← Ny527.out] at ho; have n0_ := aM (IsS79.grown (zI79 HI0.out) hg (IsS79.own_ne HI0.out HO_3.out (by decide))); have n1_ := aM (below_weaken (zs (IsS79.ge HI0.out)) HL.out hb); have n2_ := aM (KeepBut.trans (zK HK.out) (KeepBut.of_grown hg g) (Kd.R_base2 HO_3.out)); have n3_ := aM (ho); clear HI0 HB HK HO_3; have HI0 := n0_; have HB := n1_; have HK := n2_; have HO529 := n3_; clear n0_ n1_ n2_ n3_; clear ho hb hg hat))
     go_ret
     exact ⟨_, by first | rfl | (simp [errW_none, errW_some] <;> rfl) | (simp only [← hji92]; first | rfl | (simp [errW_none, errW_some] <;> rfl)) | (simp [*, errW_none, errW_some] <;> rfl), mR_ HO529.out, zI79 HI0.out, zs (IsS79.ge HI0.out), zK HK.out⟩
    rw [if_neg c91] at H
    have c91b0 : (t508 == 3) = false := beq_eq_false_iff_ne.mpr c91
    have c91b1 : (t508 != 3) = true := bne_iff_ne.mpr c91
    by_cases c100 : t508 = 4
    rotate_left
    ·rw [if_neg c100] at H
     have c100b0 : (t508 == 4) = false := beq_eq_false_iff_ne.mpr c100
     have c100b1 : (t508 != 4) = true := bne_iff_ne.mpr c100
     by_cases c112 : t508 = 5
     rotate_left
     ·rw [if_neg c112] at H
      have c112b0 : (t508 == 5) = false := beq_eq_false_iff_ne.mpr c112
      have c112b1 : (t508 != 5) = true := bne_iff_ne.mpr c112
      simp only [Option.some.injEq, Prod.mk.injEq] at H
      obtain ⟨rfl, rfl, rfl⟩ := H
      obtain ⟨Ao120, co120, eo120⟩ := Kd.R_slice HO_3.out
      subst eo120
      go_wp2_with (first | ((with_reducible refine gate_callee (f := 38) rfl ?_); refine goesL_ (some 51) rfl rfl Try.func38 (by kernel_rfl) rfl #[.pointer (some ⟨g, 0, none⟩), .int .i64 (x3_1.length : Int)] rfl zm ?_; (with_reducible refine (spec_l01Next.calls g s0_0 x1001_1 x1002_1 (x3_1.length : Int) t505 t506 t507 w0 _ ?side1 ?side2 A59.out).mono ?_); (case side1 => exact zI79 HI0.out); (case side2 => exact zs (IsS79.ge HI0.out)); rintro e w121 ⟨rfl, hi, hb, hk⟩; refine ⟨_, rfl, ?_⟩; have n0_ := aM (Kd.R_mono (Kd.R_keep (IsS79.apart (show IsS79 w0 _ g s0_0 x1001_1 x1002_1 from zI79 HI0.out) (mR_ HO_3.out) (by decide)) hk (fun _ h => h.2)) (fun _ h => h.1)); have n1_ := aM (KeepBut.trans (zK HK.out) hk (.inl rfl)); have n2_ := aM (hb); have n3_ := aM (hi); clear HO_3 HK HB HI0; have HO_3 := n0_; have HK := n1_; have HB := n2_; have HI0 := n3_; clear n0_ n1_ n2_ n3_; (try clear hb); (try clear hb2); (try clear hk); (try clear hi)) | ((with_reducible refine gate_callee (f := 38) rfl ?_); refine goesL_ (some 53) rfl rfl Try.func38 (by kernel_rfl) rfl #[.pointer (some ⟨g, 0, none⟩), .int .i64 24] rfl zm ?_; (with_reducible refine (spec_l01Next.calls g s0_0 t506 t507 24 t508 t509 t510 w0 _ ?side1 ?side2 A60.out).mono ?_); (case side1 => exact zI79 HI0.out); (case side2 => exact zs (IsS79.ge HI0.out)); rintro e w122 ⟨rfl, hi, hb, hk⟩; refine ⟨_, rfl, ?_⟩; have n0_ := aM (Kd.R_mono (Kd.R_keep (IsS79.apart (show IsS79 w0 _ g s0_0 t506 t507 from zI79 HI0.out) (mR_ HO_3.out) (by decide)) hk (fun _ h => h.2)) (fun _ h => h.1)); have n1_ := aM (KeepBut.trans (zK HK.out) hk (.inl rfl)); have n2_ := aM (hb); have n3_ := aM (hi); clear HO_3 HK HB HI0; have HO_3 := n0_; have HK := n1_; have HB := n2_; have HI0 := n3_; clear n0_ n1_ n2_ n3_; (try clear hb); (try clear hb2); (try clear hk); (try clear hi)))
      go_ret
      exact ⟨_, zw, mR_ HO_3.out, zI79 HI0.out, zs (IsS79.ge HI0.out), zK HK.out⟩
     rw [if_pos c112] at H
     have c112b0 : (t508 == 5) = true := beq_iff_eq.mpr c112
     have c112b1 : (t508 != 5) = false := bne_eq_false_iff_eq.mpr c112
     clear c112
     replace H := Option.bind_eq_some_iff.mp H
     obtain ⟨⟨t539, t540, t541⟩, A1130, H⟩ := H
     replace H : (some ((([(⟨0, 0, (-60)⟩ : S63), (⟨0, 0, wrap64 (40 + t539)⟩ : S63)] : List (S63))), t540, t541)) = some (r1, r2, r3) := H
     have A113 := aM A1130
     clear A1130
     obtain ⟨y542, hy542⟩ : ∃ y_ : List (S63), y_ = (([(⟨0, 0, (-60)⟩ : S63), (⟨0, 0, wrap64 (40 + t539)⟩ : S63)] : List (S63))) := ⟨_, rfl⟩
     replace H : (some (y542, t540, t541)) = some (r1, r2, r3) := zy H hy542
     have Ny542 := aM hy542
     clear hy542
     simp only [Option.some.injEq, Prod.mk.injEq] at H
     obtain ⟨rfl, rfl, rfl⟩ := H
     obtain ⟨Ao114, co114, eo114⟩ := Kd.R_slice HO_3.out
     subst eo114
     go_wp2_with (first | ((with_reducible refine gate_callee (f := 38) rfl ?_); refine goesL_ (some 51) rfl rfl Try.func38 (by kernel_rfl) rfl #[.pointer (some ⟨g, 0, none⟩), .int .i64 (x3_1.length : Int)] rfl zm ?_; (with_reducible refine (spec_l01Next.calls g s0_0 x1001_1 x1002_1 (x3_1.length : Int) t505 t506 t507 w0 _ ?side1 ?side2 A59.out).mono ?_); (case side1 => exact zI79 HI0.out); (case side2 => exact zs (IsS79.ge HI0.out)); rintro e w115 ⟨rfl, hi, hb, hk⟩; refine ⟨_, rfl, ?_⟩; have n0_ := aM (Kd.R_mono (Kd.R_keep (IsS79.apart (show IsS79 w0 _ g s0_0 x1001_1 x1002_1 from zI79 HI0.out) (mR_ HO_3.out) (by decide)) hk (fun _ h => h.2)) (fun _ h => h.1)); have n1_ := aM (KeepBut.trans (zK HK.out) hk (.inl rfl)); have n2_ := aM (hb); have n3_ := aM (hi); clear HO_3 HK HB HI0; have HO_3 := n0_; have HK := n1_; have HB := n2_; have HI0 := n3_; clear n0_ n1_ n2_ n3_; (try clear hb); (try clear hb2); (try clear hk); (try clear hi)) | ((with_reducible refine gate_callee (f := 38) rfl ?_); refine goesL_ (some 53) rfl rfl Try.func38 (by kernel_rfl) rfl #[.pointer (some ⟨g, 0, none⟩), .int .i64 24] rfl zm ?_; (with_reducible refine (spec_l01Next.calls g s0_0 t506 t507 24 t508 t509 t510 w0 _ ?side1 ?side2 A60.out).mono ?_); (case side1 => exact zI79 HI0.out); (case side2 => exact zs (IsS79.ge HI0.out)); rintro e w116 ⟨rfl, hi, hb, hk⟩; refine ⟨_, rfl, ?_⟩; have n0_ := aM (Kd.R_mono (Kd.R_keep (IsS79.apart (show IsS79 w0 _ g s0_0 t506 t507 from zI79 HI0.out) (mR_ HO_3.out) (by decide)) hk (fun _ h => h.2)) (fun _ h => h.1)); have n1_ := aM (KeepBut.trans (zK HK.out) hk (.inl rfl)); have n2_ := aM (hb); have n3_ := aM (hi); clear HO_3 HK HB HI0; have HO_3 := n0_; have HK := n1_; have HB := n2_; have HI0 := n3_; clear n0_ n1_ n2_ n3_; (try clear hb); (try clear hb2); (try clear hk); (try clear hi)) | ((with_reducible refine gate_callee (f := 38) rfl ?_); refine goesL_ (some 115) rfl rfl Try.func38 (by kernel_rfl) rfl #[.pointer (some ⟨g, 0, none⟩), .int .i64 2] rfl zm ?_; (with_reducible refine (spec_l01Next.calls g s0_0 t509 t510 2 t539 t540 t541 w0 _ ?side1 ?side2 A113.out).mono ?_); (case side1 => exact zI79 HI0.out); (case side2 => exact zs (IsS79.ge HI0.out)); rintro e w117 ⟨rfl, hi, hb, hk⟩; refine ⟨_, rfl, ?_⟩; have n0_ := aM (Kd.R_mono (Kd.R_keep (IsS79.apart (show IsS79 w0 _ g s0_0 t509 t510 from zI79 HI0.out) (mR_ HO_3.out) (by decide)) hk (fun _ h => h.2)) (fun _ h => h.1)); have n1_ := aM (KeepBut.trans (zK HK.out) hk (.inl rfl)); have n2_ := aM (hb); have n3_ := aM (hi); clear HO_3 HK HB HI0; have HO_3 := n0_; have HK := n1_; have HB := n2_; have HI0 := n3_; clear n0_ n1_ n2_ n3_; (try clear hb); (try clear hb2); (try clear hk); (try clear hi)) | ((with_reducible refine gate_dst (N := 118) rfl ?_); refine Kd.R_lit k63 _ 63 ?hg (N := 118) ?hd (xs := ([(⟨0, 0, (-60)⟩ : S63), (⟨0, 0, wrap64 (40 + t539)⟩ : S63)] : List (S63))) (inner := [.int .i64 0, .int .i64 0, .int .i64 (-60), .int .i64 0, .int .i64 0, .int .i64 (wrap64 (40 + t539))]) (ok := fun _ => True) (okp := fun _ => True) ?hr ?hp (fun _ hk => hk) trivial (Below.refl _ _) (Nat.le_refl _) (by simp) ?_; (case hd => rfl); (case hg => rfl); (case hr => first | (go_simp; done) | (go_simp; rfl)); (case hp => exact (Reps.c3 (show Kd.M k63 _ _ _ (⟨0, 0, (-60)⟩ : S63) [.int .i64 0, .int .i64 0, .int .i64 (-60)] from (k63_mkM _ _ _ (⟨0, 0, (-60)⟩ : S63) )) (Reps.c3 (show Kd.M k63 _ _ _ (⟨0, 0, wrap64 (40 + t539)⟩ : S63) [.int .i64 0, .int .i64 0, .int .i64 (wrap64 (40 + t539))] from (k63_mkM _ _ _ (⟨0, 0, wrap64 (40 + t539)⟩ : S63) )) (Reps.none _ _)))); intro v543 w118 ho119 hb hg_ hnew_; clear hg_ hnew_; (first | rw [← Ny542.out] at ho119 | (simp only [Int.reduceToNat] at ho119; rw [← Ny542.out] at ho119)); have n0_ := aM (Kd.R_elder' (mR_ HO_3.out) (Kd.R_base ho119) hb); have n1_ := aM (Kd.R_lower (Kd.R_new' ho119 (Kd.R_lt (mR_ HO_3.out))) (keep_size (w := w) (g := g) (row := none) (zK HK.out))); have n2_ := aM (IsS79.below (zI79 HI0.out) hb); have n3_ := aM (KeepBut.trans (zK HK.out) (KeepBut.of_below hb g none) (.inl rfl)); have n4_ := aM (below_step (zs (IsS79.ge HI0.out)) hb); clear HO_3 HI0 HK HB; have HO_3 := n0_; have HO544 := n1_; have HI0 := n2_; have HK := n3_; have HB := n4_; clear n0_ n1_ n2_ n3_ n4_; clear hb ho119))
     go_ret
     exact ⟨_, zw, zd1 HO544.out, zI79 HI0.out, zs (IsS79.ge HI0.out), zK HK.out⟩
    rw [if_pos c100] at H
    have c100b0 : (t508 == 4) = true := beq_iff_eq.mpr c100
    have c100b1 : (t508 != 4) = false := bne_eq_false_iff_eq.mpr c100
    clear c100
    obtain ⟨y530, hy530⟩ : ∃ y_ : List (S63), y_ = (([] : List (S63))) := ⟨_, rfl⟩
    replace H : (spec_l09Draw.l1 k1 y530 0 s0_0 t509 t510) = some (r1, r2, r3) := zy H hy530
    have Ny530 := aM hy530
    clear hy530
    have H' := aM H
    clear H
    obtain ⟨Ao101, co101, eo101⟩ := Kd.R_slice HO_3.out
    subst eo101
    go_wp2_with (first | ((with_reducible refine gate_callee (f := 38) rfl ?_); refine goesL_ (some 51) rfl rfl Try.func38 (by kernel_rfl) rfl #[.pointer (some ⟨g, 0, none⟩), .int .i64 (x3_1.length : Int)] rfl zm ?_; (with_reducible refine (spec_l01Next.calls g s0_0 x1001_1 x1002_1 (x3_1.length : Int) t505 t506 t507 w0 _ ?side1 ?side2 A59.out).mono ?_); (case side1 => exact zI79 HI0.out); (case side2 => exact zs (IsS79.ge HI0.out)); rintro e w102 ⟨rfl, hi, hb, hk⟩; refine ⟨_, rfl, ?_⟩; have n0_ := aM (Kd.R_mono (Kd.R_keep (IsS79.apart (show IsS79 w0 _ g s0_0 x1001_1 x1002_1 from zI79 HI0.out) (mR_ HO_3.out) (by decide)) hk (fun _ h => h.2)) (fun _ h => h.1)); have n1_ := aM (KeepBut.trans (zK HK.out) hk (.inl rfl)); have n2_ := aM (hb); have n3_ := aM (hi); clear HO_3 HK HB HI0; have HO_3 := n0_; have HK := n1_; have HB := n2_; have HI0 := n3_; clear n0_ n1_ n2_ n3_; (try clear hb); (try clear hb2); (try clear hk); (try clear hi)) | ((with_reducible refine gate_callee (f := 38) rfl ?_); refine goesL_ (some 53) rfl rfl Try.func38 (by kernel_rfl) rfl #[.pointer (some ⟨g, 0, none⟩), .int .i64 24] rfl zm ?_; (with_reducible refine (spec_l01Next.calls g s0_0 t506 t507 24 t508 t509 t510 w0 _ ?side1 ?side2 A60.out).mono ?_); (case side1 => exact zI79 HI0.out); (case side2 => exact zs (IsS79.ge HI0.out)); rintro e w103 ⟨rfl, hi, hb, hk⟩; refine ⟨_, rfl, ?_⟩; have n0_ := aM (Kd.R_mono (Kd.R_keep (IsS79.apart (show IsS79 w0 _ g s0_0 t506 t507 from zI79 HI0.out) (mR_ HO_3.out) (by decide)) hk (fun _ h => h.2)) (fun _ h => h.1)); have n1_ := aM (KeepBut.trans (zK HK.out) hk (.inl rfl)); have n2_ := aM (hb); have n3_ := aM (hi); clear HO_3 HK HB HI0; have HO_3 := n0_; have HK := n1_; have HB := n2_; have HI0 := n3_; clear n0_ n1_ n2_ n3_; (try clear hb); (try clear hb2); (try clear hk); (try clear hi)) | ((with_reducible refine gate_dst (N := 94) rfl ?_); refine Kd.R_lit k63 _ 63 ?hg (N := 94) ?hd (xs := ([] : List (S63))) (inner := []) (ok := fun _ => True) (okp := fun _ => True) ?hr ?hp (fun _ hk => hk) trivial (Below.refl _ _) (Nat.le_refl _) (by simp) ?_; (case hd => rfl); (case hg => rfl); (case hr => first | (go_simp; done) | (go_simp; rfl)); (case hp => exact (Reps.none _ _)); intro v531 w104 ho105 hb hg_ hnew_; clear hg_ hnew_; (first | rw [← Ny530.out] at ho105 | (simp only [Int.reduceToNat] at ho105; rw [← Ny530.out] at ho105)); have n0_ := aM (Kd.R_elder' (mR_ HO_3.out) (Kd.R_base ho105) hb); have n1_ := aM (Kd.R_lower (Kd.R_new' ho105 (Kd.R_lt (mR_ HO_3.out))) (keep_size (w := w) (g := g) (row := none) (zK HK.out))); have n2_ := aM (IsS79.below (zI79 HI0.out) hb); have n3_ := aM (KeepBut.trans (zK HK.out) (KeepBut.of_below hb g none) (.inl rfl)); have n4_ := aM (below_step (zs (IsS79.ge HI0.out)) hb); clear HO_3 HI0 HK HB; have HO_3 := n0_; have HO532 := n1_; have HI0 := n2_; have HK := n3_; have HB := n4_; clear n0_ n1_ n2_ n3_ n4_; clear hb ho105))
    go_loopg [7, 8] k1 (fun kq v7 v8 w' => ∃ (x7_2 : List (S63)) (x8_2 : Int) (x1001_2 : Int) (x1002_2 : Int), v8 = .int .i64 x8_2 ∧ Aside0 (spec_l09Draw.l1 kq x7_2 x8_2 s0_0 x1001_2 x1002_2 = some (r1, r2, r3)) ∧ Aside0 (kq ≤ k1) ∧ Aside0 (Kd.R k63 63 w' w.heap.size (fun _ => True) v7 x7_2) ∧ Aside0 (IsS79 w0 w' g s0_0 x1001_2 x1002_2) ∧ Aside0 (KeepBut w w' g none) ∧ Aside0 (Below w0.heap.size w0 w'))
    case atStart => exact ⟨(y530), (0), (t509), (t510), zr, H', ⟨Nat.le_refl _⟩, ⟨zd1 HO532.out⟩, ⟨zI79 HI0.out⟩, ⟨zK HK.out⟩, ⟨zs (IsS79.ge HI0.out)⟩⟩
    case round =>
     clear H'
     try clear c1
     try clear p2
     try clear c3
     try clear c5
     try clear p5
     try clear q5
     try clear hx5
     try clear c6
     try clear p6
     try clear q6
     try clear hx6
     try clear hf6
     try clear c7
     try clear hx7
     try clear hf7
     try clear c8
     try clear c9
     try clear c10
     try clear c12
     try clear c12b0
     try clear c14
     try clear c15
     try clear c18
     try clear c19
     try clear c38
     try clear p51
     try clear q51
     try clear hx51
     try clear c52
     try clear p52
     try clear q52
     try clear hx52
     try clear c54
     try clear c56
     try clear c57
     try clear c61
     try clear c61b0
     try clear c61b1
     try clear c63
     try clear c63b0
     try clear c64
     try clear c64b0
     try clear p64
     try clear c65
     try clear c65b0
     try clear c66
     try clear c66b0
     try clear c67
     try clear p67
     try clear q67
     try clear hx67
     try clear hf67
     try clear c76
     try clear hx76
     try clear hf76
     try clear c79
     try clear c79b0
     try clear c79b1
     try clear c80
     try clear c80b0
     try clear c81
     try clear c81b0
     try clear c82
     try clear c87
     try clear c87b0
     try clear c87b1
     try clear c91
     try clear c91b0
     try clear c91b1
     try clear c93
     try clear c93b0
     try clear c94
     try clear c94b0
     try clear c95
     try clear c100
     try clear c100b0
     try clear c100b1
     try clear hcz57_0
     try clear hcz57_1
     try clear hcz57_2
     try clear hfz57_0
     try clear hfz57_1
     try clear hfz57_2
     try clear hx517_0
     try clear hx522_0
     try clear hx522_1
     try clear hx522_2
     try clear hx526_0
     try clear hx526_1
     try clear hx526_2
     try clear hx67_0
     try clear hx67_1
     try clear hx67_2
     try clear hx76_2
     try clear p517
     try clear p522
     try clear p526
     try clear p67
     try clear q517
     try clear q522
     try clear q526
     try clear q67
     obtain ⟨x7_2, x8_2, x1001_2, x1002_2, rfl, HA, HK2, HO_7, HI0, HK, HB⟩ := hrel
     cases gk with
     | zero => exact absurd HA.out (by simp [spec_l09Draw.l1])
     | succ k2 =>
      have H := HA.out
      clear HA
      simp only [spec_l09Draw.l1] at H
      replace H := Option.bind_eq_some_iff.mp H
      obtain ⟨⟨t533, t534, t535⟩, A1060, H⟩ := H
      replace H : (if x8_2 < (wrap64 (24 + t533)) then (if x7_2.length < 5864062014805 then (spec_l09Draw.l1 k2 (x7_2 ++ [(⟨Int.tmod x8_2 5, wrap64 (Int.tdiv x8_2 5), 0⟩ : S63)]) (wrap64 (x8_2 + 1)) s0_0 t534 t535) else (none)) else (some (x7_2, t534, t535))) = some (r1, r2, r3) := H
      have A106 := aM A1060
      clear A1060
      by_cases c107 : x8_2 < (wrap64 (24 + t533))
      rotate_left
      ·rw [if_neg c107] at H
       have c107b0 : decide (x8_2 < (wrap64 (24 + t533))) = false := decide_eq_false c107
       clear c107
       simp only [Option.some.injEq, Prod.mk.injEq] at H
       obtain ⟨rfl, rfl, rfl⟩ := H
       go_wp2_with (first | ((with_reducible refine gate_callee (f := 38) rfl ?_); refine goesL_ (some 97) rfl rfl Try.func38 (by kernel_rfl) rfl #[.pointer (some ⟨g, 0, none⟩), .int .i64 2] rfl zm ?_; (with_reducible refine (spec_l01Next.calls g s0_0 x1001_2 x1002_2 2 t533 t534 t535 w0 _ ?side1 ?side2 A106.out).mono ?_); (case side1 => exact zI79 HI0.out); (case side2 => exact zs (IsS79.ge HI0.out)); rintro e w111 ⟨rfl, hi, hb, hk⟩; refine ⟨_, rfl, ?_⟩; have n0_ := aM (Kd.R_mono (Kd.R_keep (IsS79.apart (show IsS79 w0 _ g s0_0 x1001_2 x1002_2 from zI79 HI0.out) (mR_ HO_7.out) (by decide)) hk (fun _ h => h.2)) (fun _ h => h.1)); have n1_ := aM (KeepBut.trans (zK HK.out) hk (.inl rfl)); have n2_ := aM (hb); have n3_ := aM (hi); clear HO_7 HK HB HI0; have HO_7 := n0_; have HK := n1_; have HB := n2_; have HI0 := n3_; clear n0_ n1_ n2_ n3_; (try clear hb); (try clear hb2); (try clear hk); (try clear hi)))
       go_ret
       exact ⟨_, zw, mR_ HO_7.out, zI79 HI0.out, zs (IsS79.ge HI0.out), zK HK.out⟩
      rw [if_pos c107] at H
      have c107b0 : decide (x8_2 < (wrap64 (24 + t533))) = true := decide_eq_true c107
      clear c107
      by_cases c108 : x7_2.length < 5864062014805
      rotate_left
      ·rw [if_neg c108] at H
       exact absurd H (by simp)
      rw [if_pos c108] at H
      have LMc108 := aM c108
      clear c108
      obtain ⟨y536, hy536⟩ : ∃ y_ : List (S63), y_ = (x7_2 ++ [(⟨Int.tmod x8_2 5, wrap64 (Int.tdiv x8_2 5), 0⟩ : S63)]) := ⟨_, rfl⟩
      replace H : (spec_l09Draw.l1 k2 y536 (wrap64 (x8_2 + 1)) s0_0 t534 t535) = some (r1, r2, r3) := zy H hy536
      have Ny536 := aM hy536
      clear hy536
      have H' := aM H
      clear H
      go_wp2_with (first | ((with_reducible refine gate_callee (f := 38) rfl ?_); refine goesL_ (some 97) rfl rfl Try.func38 (by kernel_rfl) rfl #[.pointer (some ⟨g, 0, none⟩), .int .i64 2] rfl zm ?_; (with_reducible refine (spec_l01Next.calls g s0_0 x1001_2 x1002_2 2 t533 t534 t535 w0 _ ?side1 ?side2 A106.out).mono ?_); (case side1 => exact zI79 HI0.out); (case side2 => exact zs (IsS79.ge HI0.out)); rintro e w109 ⟨rfl, hi, hb, hk⟩; refine ⟨_, rfl, ?_⟩; have n0_ := aM (Kd.R_mono (Kd.R_keep (IsS79.apart (show IsS79 w0 _ g s0_0 x1001_2 x1002_2 from zI79 HI0.out) (mR_ HO_7.out) (by decide)) hk (fun _ h => h.2)) (fun _ h => h.1)); have n1_ := aM (KeepBut.trans (zK HK.out) hk (.inl rfl)); have n2_ := aM (hb); have n3_ := aM (hi); clear HO_7 HK HB HI0; have HO_7 := n0_; have HK := n1_; have HB := n2_; have HI0 := n3_; clear n0_ n1_ n2_ n3_; (try clear hb); (try clear hb2); (try clear hk); (try clear hi)) | ((with_reducible refine gate_builtin (b := .append) (xs := #[.tmp 102, .tmp 108]) rfl ?_); at_builtin; refine Kd.R_append k63 w.heap.size rfl (.tmp 102) (.tmp 108) 34 63 (.agg #[(.int .i64 0), (.int .i64 0), (.int .i64 0)]) 24 rfl Try.underlying34 info63 rfl (by decide) (by omega) u7 x7_2 (⟨Int.tmod x8_2 5, wrap64 (Int.tdiv x8_2 5), 0⟩ : S63) [.int .i64 (Int.tmod x8_2 5), .int .i64 (wrap64 (Int.tdiv x8_2 5)), .int .i64 0] (fun _ => True) (fun _ => False) rfl rfl ?aP (fun _ hk => hk.elim) ?aF ?aO (Below.refl _ _) ?aS ?aL ?_; (case aP => exact k63_mkM _ _ _ (⟨Int.tmod x8_2 5, wrap64 (Int.tdiv x8_2 5), 0⟩ : S63)); (case aF => exact (fun _ _ => trivial)); (case aO => exact (mR_ HO_7.out)); (case aS => exact (keep_size (w := w) (g := g) (row := none) (zK HK.out))); (case aL => have := LMc108.out; omega); intro v537 w110 ho hb hg hat; rw [← Ny536.out] at ho; have n0_ := aM (IsS79.grown (zI79 HI0.out) hg (IsS79.own_ne HI0.out HO_7.out (by decide))); have n1_ := aM (below_weaken (zs (IsS79.ge HI0.out)) HL.out hb); have n2_ := aM (KeepBut.trans (zK HK.out) (KeepBut.of_grown hg g) (Kd.R_base2 HO_7.out)); have n3_ := aM (ho); clear HI0 HB HK HO_7; have HI0 := n0_; have HB := n1_; have HK := n2_; have HO538 := n3_; clear n0_ n1_ n2_ n3_; clear ho hb hg hat))
      go_roundg k2
      case measure => have := HK1.out; have := HK2.out; omega
      case rel => exact ⟨(y536), (wrap64 (x8_2 + 1)), (t534), (t535), zr, H', ⟨by have := HK1.out; have := HK2.out; omega⟩, ⟨mR_ HO538.out⟩, ⟨zI79 HI0.out⟩, ⟨zK HK.out⟩, ⟨zs (IsS79.ge HI0.out)⟩⟩
   rw [if_pos c12] at H
   have c12b0 : decide (0 < x4_1) = true := decide_eq_true c12
   clear c12
   replace H := Option.bind_eq_some_iff.mp H
   obtain ⟨⟨t483, t484, t485⟩, A130, H⟩ := H
   replace H : (if 0 ≤ t483 then (if t483 < (x3_1.length : Int) then ((spec_l09Steps.f).bind fun t487 => ((spec_l01Next.f s0_0 t484 t485 6).bind fun bt490 => (if 0 ≤ bt490.1 then (if bt490.1 < (t487.length : Int) then ((spec_l09Add.f ((rd_T63 x3_1 t483).f0) ((rd_T63 x3_1 t483).f1) ((rd_T63 x3_1 t483).f2) ((rd_T63 t487 bt490.1).f0) ((rd_T63 t487 bt490.1).f1) ((rd_T63 t487 bt490.1).f2)).bind fun bt494 => ((spec_l09Index.f k1 x3_1 bt494.1 bt494.2.1 bt494.2.2).bind fun t498 => (if t498 < 0 then (if x3_1.length < 5864062014805 then ((spec_l09Sort.f k1 (x3_1 ++ [(⟨bt494.1, bt494.2.1, bt494.2.2⟩ : S63)])).bind fun t502 => (spec_l09Draw.l0 k1 t502 (wrap64 (x4_1 - 1)) s0_0 bt490.2.1 bt490.2.2)) else (none)) else (spec_l09Draw.l0 k1 x3_1 (wrap64 (x4_1 - 1)) s0_0 bt490.2.1 bt490.2.2)))) else (none)) else (none)))) else (none)) else (none)) = some (r1, r2, r3) := H
   have A13 := aM A130
   clear A130
   by_cases c14 : 0 ≤ t483
   rotate_left
   ·rw [if_neg c14] at H
    exact absurd H (by simp)
   rw [if_pos c14] at H
   have c14b0 : decide (0 ≤ t483) = true := decide_eq_true c14
   clear c14
   by_cases c15 : t483 < (x3_1.length : Int)
   rotate_left
   ·rw [if_neg c15] at H
    exact absurd H (by simp)
   rw [if_pos c15] at H
   have c15b0 : decide (t483 < (x3_1.length : Int)) = true := decide_eq_true c15
   clear c15
   replace H := Option.bind_eq_some_iff.mp H
   obtain ⟨t487, A160, H⟩ := H
   replace H : ((spec_l01Next.f s0_0 t484 t485 6).bind fun bt490 => (if 0 ≤ bt490.1 then (if bt490.1 < (t487.length : Int) then ((spec_l09Add.f ((rd_T63 x3_1 t483).f0) ((rd_T63 x3_1 t483).f1) ((rd_T63 x3_1 t483).f2) ((rd_T63 t487 bt490.1).f0) ((rd_T63 t487 bt490.1).f1) ((rd_T63 t487 bt490.1).f2)).bind fun bt494 => ((spec_l09Index.f k1 x3_1 bt494.1 bt494.2.1 bt494.2.2).bind fun t498 => (if t498 < 0 then (if x3_1.length < 5864062014805 then ((spec_l09Sort.f k1 (x3_1 ++ [(⟨bt494.1, bt494.2.1, bt494.2.2⟩ : S63)])).bind fun t502 => (spec_l09Draw.l0 k1 t502 (wrap64 (x4_1 - 1)) s0_0 bt490.2.1 bt490.2.2)) else (none)) else (spec_l09Draw.l0 k1 x3_1 (wrap64 (x4_1 - 1)) s0_0 bt490.2.1 bt490.2.2)))) else (none)) else (none))) = some (r1, r2, r3) := H
   have A16 := aM A160
   clear A160
   replace H := Option.bind_eq_some_iff.mp H
   obtain ⟨⟨t490, t491, t492⟩, A170, H⟩ := H
   replace H : (if 0 ≤ t490 then (if t490 < (t487.length : Int) then ((spec_l09Add.f ((rd_T63 x3_1 t483).f0) ((rd_T63 x3_1 t483).f1) ((rd_T63 x3_1 t483).f2) ((rd_T63 t487 t490).f0) ((rd_T63 t487 t490).f1) ((rd_T63 t487 t490).f2)).bind fun bt494 => ((spec_l09Index.f k1 x3_1 bt494.1 bt494.2.1 bt494.2.2).bind fun t498 => (if t498 < 0 then (if x3_1.length < 5864062014805 then ((spec_l09Sort.f k1 (x3_1 ++ [(⟨bt494.1, bt494.2.1, bt494.2.2⟩ : S63)])).bind fun t502 => (spec_l09Draw.l0 k1 t502 (wrap64 (x4_1 - 1)) s0_0 t491 t492)) else (none)) else (spec_l09Draw.l0 k1 x3_1 (wrap64 (x4_1 - 1)) s0_0 t491 t492)))) else (none)) else (none)) = some (r1, r2, r3) := H
   have A17 := aM A170
   clear A170
   by_cases c18 : 0 ≤ t490
   rotate_left
   ·rw [if_neg c18] at H
    exact absurd H (by simp)
   rw [if_pos c18] at H
   have c18b0 : decide (0 ≤ t490) = true := decide_eq_true c18
   clear c18
   by_cases c19 : t490 < (t487.length : Int)
   rotate_left
   ·rw [if_neg c19] at H
    exact absurd H (by simp)
   rw [if_pos c19] at H
   have c19b0 : decide (t490 < (t487.length : Int)) = true := decide_eq_true c19
   clear c19
   replace H := Option.bind_eq_some_iff.mp H
   obtain ⟨⟨t494, t495, t496⟩, A200, H⟩ := H
   replace H : ((spec_l09Index.f k1 x3_1 t494 t495 t496).bind fun t498 => (if t498 < 0 then (if x3_1.length < 5864062014805 then ((spec_l09Sort.f k1 (x3_1 ++ [(⟨t494, t495, t496⟩ : S63)])).bind fun t502 => (spec_l09Draw.l0 k1 t502 (wrap64 (x4_1 - 1)) s0_0 t491 t492)) else (none)) else (spec_l09Draw.l0 k1 x3_1 (wrap64 (x4_1 - 1)) s0_0 t491 t492))) = some (r1, r2, r3) := H
   have A20 := aM A200
   clear A200
   replace H := Option.bind_eq_some_iff.mp H
   obtain ⟨t498, A210, H⟩ := H
   replace H : (if t498 < 0 then (if x3_1.length < 5864062014805 then ((spec_l09Sort.f k1 (x3_1 ++ [(⟨t494, t495, t496⟩ : S63)])).bind fun t502 => (spec_l09Draw.l0 k1 t502 (wrap64 (x4_1 - 1)) s0_0 t491 t492)) else (none)) else (spec_l09Draw.l0 k1 x3_1 (wrap64 (x4_1 - 1)) s0_0 t491 t492)) = some (r1, r2, r3) := H
   have A21 := aM A210
   clear A210
   by_cases c22 : t498 < 0
   rotate_left
   ·rw [if_neg c22] at H
    have c22b0 : decide (t498 < 0) = false := decide_eq_false c22
    clear c22
    have H' := aM H
    clear H
    try go_wp2
    have n0_ := aM (Kd.R_drew HO_3.out)
    have n1_ := aM (IsS79.drew HI0.out)
    have n2_ := aM (keep_drew HK.out)
    have n3_ := aM (below_drew1 HB.out)
    clear HO_3
    clear HI0
    clear HK
    clear HB
    have HO_3 := n0_
    have HI0 := n1_
    have HK := n2_
    have HB := n3_
    clear n0_ n1_ n2_ n3_
    obtain ⟨Ao45, co45, eo45⟩ := Kd.R_slice HO_3.out
    (first | subst eo45 | (injection eo45 with f1_ f2_ f3_; have f4_ := f1_.symm; have f5_ := f3_.symm; clear f1_ f2_ f3_; subst f4_; subst f5_))
    have p486 : 0 ≤ (t483 : Int) := of_decide_eq_true za
    have q486 : t483 < (x3_1.length : Int) := of_decide_eq_true za
    obtain ⟨ad486, e486, hx486_0, hx486_1, hx486_2⟩ := at_T63 (Kd.R_reads' HO_3.out).2.2 t483 p486 q486
    cases e486
    replace p486 := eq_true p486
    replace q486 := eq_true q486
    refine start_ (n := 15) (S := fun w' => (spec_l09Draw.d3 w' ad486 t483 x3_1)) (ds := []) zA33 (by kernel_rfl) rfl rfl ⟨hx486_0, hx486_1, hx486_2⟩ (fun hHeld => ?_); refine with_tabW spec_l09Draw.tab5 spec_l09Draw.bits5 (fun HT_ HW_ => ?_)
    generalize wr.drew = w44 at HO_3 HI0 HK HB hx486_0 hx486_1 hx486_2 hHeld ⊢
    refine zp 0 (some 26) ?_ zA34 rfl rfl (Or.inl ⟨by rfl, ?_⟩) ?_ ?_ ?_
    rotate_left
    ·intro w'
     go_simp
     with_reducible rfl
    rotate_left
    ·simp only [Act.put, xA, xB, xC, i64_w, i32_w]
     rfl
    refine zp 1 (some 27) ?_ zA35 rfl rfl (Or.inl ⟨by rfl, ?_⟩) ?_ ?_ ?_
    rotate_left
    ·intro w'
     go_simp
     with_reducible rfl
    rotate_left
    ·simp only [Act.put, xA, xB, xC, i64_w, i32_w]
     rfl
    refine zp 2 (some 28) ?_ zA36 rfl rfl (Or.inl ⟨by rfl, ?_⟩) ?_ ?_ ?_
    rotate_left
    ·intro w'
     go_simp
     with_reducible rfl
    rotate_left
    ·simp only [Act.put, xA, xB, xC, i64_w, i32_w]
     rfl
    refine zp 3 (some 29) ?_ zA37 rfl rfl (Or.inl ⟨by rfl, ?_⟩) ?_ ?_ ?_
    rotate_left
    ·intro w'
     go_simp
     with_reducible rfl
    rotate_left
    ·simp only [Act.put, xA, xB, xC, i64_w, i32_w]
     rfl
    refine zp 8 (some 34) ?_ zA67 rfl rfl (Or.inl ⟨by rfl, ?_⟩) ?_ ?_ ?_
    rotate_left
    ·intro w'
     go_simp
     with_reducible rfl
    rotate_left
    ·simp only [Act.put, xA, xB, xC, i64_w, i32_w]
     rfl
    refine join9_ (σ := (Value × Nat) × Addr) (fun s_ w' => (spec_l09Draw.c3 w' (s_.2) t490 t487 ((spec_l09Draw.d3 w' ad486 t483 x3_1)))) 1 zA47 (fun s_ => [(30, .int .i64 t483), (33, s_.1.1), (35, .int .i64 t490), (38, .agg #[.int .i64 t494, .int .i64 t495, .int .i64 t496]), (5, .pointer (some ⟨s_.1.2, 0, none⟩)), (31, .pointer (some (ad486.add ((t483).toNat * 3)))), (32, spec_l09Draw.a3 x3_1 t483), (36, .pointer (some (s_.2.add ((t490).toNat * 3)))), (37, spec_l09Draw.a3 t487 t490)]) (fun s_ w' => ((spec_l09Draw.c3 w' (s_.2) t490 t487 ((spec_l09Draw.d3 w' ad486 t483 x3_1)))) ∧ (Kd.R k63 63 w' w.heap.size (fun k_ => some k_ ≠ (.slice (some ad486) x3_1.length co45 : Value).ownBlock ∧ k_ ≠ s_.1.2) s_.1.1 t487) ∧ (Kd.R k63 63 w' w.heap.size (fun k_ => some k_ ≠ (s_.1.1 : Value).ownBlock ∧ k_ ≠ s_.1.2) (.slice (some ad486) x3_1.length co45) x3_1) ∧ (w'.heap[s_.1.2]? = some (.cells #[.int .i64 0, .int .i64 0, .int .i64 0] 63 (0, 0))) ∧ (w.heap.size ≤ s_.1.2) ∧ (w0.heap.size ≤ s_.1.2) ∧ (g ≠ s_.1.2) ∧ (s_.1.2 ≠ g) ∧ (IsS79 w0 w' g s0_0 t491 t492) ∧ (KeepBut w w' g none) ∧ (Below w0.heap.size w0 w') ∧ (∃ c9_, s_.1.1 = Value.slice (some s_.2) t487.length c9_)) ?_ ?_
    rotate_left
    ·intro hJ4_7_9_12_13
     refine join9_ (σ := (Value) × Addr) (fun s_ w' => (spec_l09Draw.c3 w' (s_.2) t490 t487 ((spec_l09Draw.d3 w' ad486 t483 x3_1)))) 2 zA46 (fun s_ => [(30, .int .i64 t483), (33, s_.1), (35, .int .i64 t490), (38, .agg #[.int .i64 t494, .int .i64 t495, .int .i64 t496]), (31, .pointer (some (ad486.add ((t483).toNat * 3)))), (32, spec_l09Draw.a3 x3_1 t483), (36, .pointer (some (s_.2.add ((t490).toNat * 3)))), (37, spec_l09Draw.a3 t487 t490)]) (fun s_ w' => ((spec_l09Draw.c3 w' (s_.2) t490 t487 ((spec_l09Draw.d3 w' ad486 t483 x3_1)))) ∧ (Kd.R k63 63 w' w.heap.size (fun k_ => some k_ ≠ (.slice (some ad486) x3_1.length co45 : Value).ownBlock) s_.1 t487) ∧ (Kd.R k63 63 w' w.heap.size (fun k_ => some k_ ≠ (s_.1 : Value).ownBlock) (.slice (some ad486) x3_1.length co45) x3_1) ∧ (IsS79 w0 w' g s0_0 t491 t492) ∧ (KeepBut w w' g none) ∧ (Below w0.heap.size w0 w') ∧ (∃ c9_, s_.1 = Value.slice (some s_.2) t487.length c9_)) ?_ ?_
     rotate_left
     ·intro hJ4_7_9_12
      refine join9_ (σ := (Value × Nat) × Addr) (fun s_ w' => (spec_l09Draw.c3 w' (s_.2) t490 t487 ((spec_l09Draw.d3 w' ad486 t483 x3_1)))) 2 zA68 (fun s_ => [(30, .int .i64 t483), (33, s_.1.1), (35, .int .i64 t490), (5, .pointer (some ⟨s_.1.2, 0, none⟩)), (31, .pointer (some (ad486.add ((t483).toNat * 3)))), (32, spec_l09Draw.a3 x3_1 t483), (36, .pointer (some (s_.2.add ((t490).toNat * 3)))), (37, spec_l09Draw.a3 t487 t490)]) (fun s_ w' => ((spec_l09Draw.c3 w' (s_.2) t490 t487 ((spec_l09Draw.d3 w' ad486 t483 x3_1)))) ∧ (Kd.R k63 63 w' w.heap.size (fun k_ => some k_ ≠ (.slice (some ad486) x3_1.length co45 : Value).ownBlock ∧ k_ ≠ s_.1.2) s_.1.1 t487) ∧ (Kd.R k63 63 w' w.heap.size (fun k_ => some k_ ≠ (s_.1.1 : Value).ownBlock ∧ k_ ≠ s_.1.2) (.slice (some ad486) x3_1.length co45) x3_1) ∧ (w'.heap[s_.1.2]? = some (.cells #[.int .i64 0, .int .i64 0, .int .i64 0] 63 (0, 0))) ∧ (w.heap.size ≤ s_.1.2) ∧ (w0.heap.size ≤ s_.1.2) ∧ (g ≠ s_.1.2) ∧ (s_.1.2 ≠ g) ∧ (IsS79 w0 w' g s0_0 t491 t492) ∧ (KeepBut w w' g none) ∧ (Below w0.heap.size w0 w') ∧ (∃ c9_, s_.1.1 = Value.slice (some s_.2) t487.length c9_)) ?_ ?_
      rotate_left
      ·intro hJ4_7_9_13
       refine join9_ (σ := (Value) × Addr) (fun s_ w' => (spec_l09Draw.c3 w' (s_.2) t490 t487 ((spec_l09Draw.d3 w' ad486 t483 x3_1)))) 3 zA45 (fun s_ => [(30, .int .i64 t483), (33, s_.1), (35, .int .i64 t490), (31, .pointer (some (ad486.add ((t483).toNat * 3)))), (32, spec_l09Draw.a3 x3_1 t483), (36, .pointer (some (s_.2.add ((t490).toNat * 3)))), (37, spec_l09Draw.a3 t487 t490)]) (fun s_ w' => ((spec_l09Draw.c3 w' (s_.2) t490 t487 ((spec_l09Draw.d3 w' ad486 t483 x3_1)))) ∧ (Kd.R k63 63 w' w.heap.size (fun k_ => some k_ ≠ (.slice (some ad486) x3_1.length co45 : Value).ownBlock) s_.1 t487) ∧ (Kd.R k63 63 w' w.heap.size (fun k_ => some k_ ≠ (s_.1 : Value).ownBlock) (.slice (some ad486) x3_1.length co45) x3_1) ∧ (IsS79 w0 w' g s0_0 t491 t492) ∧ (KeepBut w w' g none) ∧ (Below w0.heap.size w0 w') ∧ (∃ c9_, s_.1 = Value.slice (some s_.2) t487.length c9_)) ?_ ?_
       rotate_left
       ·intro hJ4_7_9
        refine join9_ (σ := (Value × Nat) × Addr) (fun s_ w' => (spec_l09Draw.c3 w' (s_.2) t490 t487 ((spec_l09Draw.d3 w' ad486 t483 x3_1)))) 5 zA69 (fun s_ => [(30, .int .i64 t483), (33, s_.1.1), (5, .pointer (some ⟨s_.1.2, 0, none⟩)), (31, .pointer (some (ad486.add ((t483).toNat * 3)))), (32, spec_l09Draw.a3 x3_1 t483)]) (fun s_ w' => ((spec_l09Draw.c3 w' (s_.2) t490 t487 ((spec_l09Draw.d3 w' ad486 t483 x3_1)))) ∧ (Kd.R k63 63 w' w.heap.size (fun k_ => some k_ ≠ (.slice (some ad486) x3_1.length co45 : Value).ownBlock ∧ k_ ≠ s_.1.2) s_.1.1 t487) ∧ (Kd.R k63 63 w' w.heap.size (fun k_ => some k_ ≠ (s_.1.1 : Value).ownBlock ∧ k_ ≠ s_.1.2) (.slice (some ad486) x3_1.length co45) x3_1) ∧ (w'.heap[s_.1.2]? = some (.cells #[.int .i64 0, .int .i64 0, .int .i64 0] 63 (0, 0))) ∧ (w.heap.size ≤ s_.1.2) ∧ (w0.heap.size ≤ s_.1.2) ∧ (g ≠ s_.1.2) ∧ (s_.1.2 ≠ g) ∧ (IsS79 w0 w' g s0_0 t484 t485) ∧ (KeepBut w w' g none) ∧ (Below w0.heap.size w0 w') ∧ (∃ c9_, s_.1.1 = Value.slice (some s_.2) t487.length c9_)) ?_ ?_
        rotate_left
        ·intro hJ4_7_13
         refine join9_ (σ := (Value) × Addr) (fun s_ w' => (spec_l09Draw.c3 w' (s_.2) t490 t487 ((spec_l09Draw.d3 w' ad486 t483 x3_1)))) 6 zA42 (fun s_ => [(30, .int .i64 t483), (33, s_.1), (31, .pointer (some (ad486.add ((t483).toNat * 3)))), (32, spec_l09Draw.a3 x3_1 t483)]) (fun s_ w' => ((spec_l09Draw.c3 w' (s_.2) t490 t487 ((spec_l09Draw.d3 w' ad486 t483 x3_1)))) ∧ (Kd.R k63 63 w' w.heap.size (fun k_ => some k_ ≠ (.slice (some ad486) x3_1.length co45 : Value).ownBlock) s_.1 t487) ∧ (Kd.R k63 63 w' w.heap.size (fun k_ => some k_ ≠ (s_.1 : Value).ownBlock) (.slice (some ad486) x3_1.length co45) x3_1) ∧ (IsS79 w0 w' g s0_0 t484 t485) ∧ (KeepBut w w' g none) ∧ (Below w0.heap.size w0 w') ∧ (∃ c9_, s_.1 = Value.slice (some s_.2) t487.length c9_)) ?_ ?_
         rotate_left
         ·intro hJ4_7
          refine join_ (σ := Nat) 6 zA70 (fun s_ => [(30, .int .i64 t483), (5, .pointer (some ⟨s_, 0, none⟩)), (31, .pointer (some (ad486.add ((t483).toNat * 3)))), (32, spec_l09Draw.a3 x3_1 t483)]) (fun s_ w' => ((spec_l09Draw.d3 w' ad486 t483 x3_1)) ∧ (Kd.R k63 63 w' w.heap.size (fun k_ => k_ ≠ s_) (.slice (some ad486) x3_1.length co45) x3_1) ∧ (w'.heap[s_]? = some (.cells #[.int .i64 0, .int .i64 0, .int .i64 0] 63 (0, 0))) ∧ (w.heap.size ≤ s_) ∧ (w0.heap.size ≤ s_) ∧ (g ≠ s_) ∧ (s_ ≠ g) ∧ (IsS79 w0 w' g s0_0 t484 t485) ∧ (KeepBut w w' g none) ∧ (Below w0.heap.size w0 w')) ?_ ?_
          rotate_left
          ·intro hJ4_13
           refine join_ (σ := Unit) 7 zA71 (fun s_ => [(30, .int .i64 t483), (31, .pointer (some (ad486.add ((t483).toNat * 3)))), (32, spec_l09Draw.a3 x3_1 t483)]) (fun s_ w' => ((spec_l09Draw.d3 w' ad486 t483 x3_1)) ∧ (Kd.R k63 63 w' w.heap.size (fun _ => True) (.slice (some ad486) x3_1.length co45) x3_1) ∧ (IsS79 w0 w' g s0_0 t484 t485) ∧ (KeepBut w w' g none) ∧ (Below w0.heap.size w0 w')) ?_ ?_
           rotate_left
           ·intro hJ4
            refine join_ (σ := Nat) 9 zA72 (fun s_ => [(5, .pointer (some ⟨s_, 0, none⟩))]) (fun s_ w' => ((spec_l09Draw.d3 w' ad486 t483 x3_1)) ∧ (Kd.R k63 63 w' w.heap.size (fun k_ => k_ ≠ s_) (.slice (some ad486) x3_1.length co45) x3_1) ∧ (w'.heap[s_]? = some (.cells #[.int .i64 0, .int .i64 0, .int .i64 0] 63 (0, 0))) ∧ (w.heap.size ≤ s_) ∧ (w0.heap.size ≤ s_) ∧ (g ≠ s_) ∧ (s_ ≠ g) ∧ (IsS79 w0 w' g s0_0 x1001_1 x1002_1) ∧ (KeepBut w w' g none) ∧ (Below w0.heap.size w0 w')) ?_ ?_
            rotate_left
            ·intro hJ13
             refine two_ (i := 4) (j := 13) (Ni := some 30) (Nj := some 5) zA73 zA72 rfl rfl rfl rfl (two_of HT_.out (by kernel_rfl)) (by decide) (by decide) (fun K hK => ?_) (fun K hK => ?_)
             ·skip
              refine goes_ Try.func38 (by kernel_rfl) rfl #[.pointer (some ⟨g, 0, none⟩), .int .i64 (x3_1.length : Int)] (by rfl) rfl rfl zm ?_
              with_reducible refine (spec_l01Next.calls g s0_0 x1001_1 x1002_1 (x3_1.length : Int) t483 t484 t485 w0 _ ?side1 ?side2 A13.out).mono ?_
              (case side1 => exact zI79 HI0.out)
              (case side2 => exact zs (IsS79.ge HI0.out))
              rintro e w46 ⟨rfl, hi, hb, hk⟩
              have HS3_ := keep_cell hk (hHeld.1) (by first | (rw [add_block]; exact Kd.own_blk (IsS79.own_ne HI0.out HO_3.out (by decide))) | (show (Addr.add _ _).block ≠ _; rw [add_block]; exact Kd.own_blk (IsS79.own_ne HI0.out HO_3.out (by decide))) | exact Kd.own_blk (IsS79.own_ne HI0.out HO_3.out (by decide)))
              have HS4_ := keep_cell hk (hHeld.2.1) (by first | (rw [add_block]; exact Kd.own_blk (IsS79.own_ne HI0.out HO_3.out (by decide))) | (show (Addr.add _ _).block ≠ _; rw [add_block]; exact Kd.own_blk (IsS79.own_ne HI0.out HO_3.out (by decide))) | exact Kd.own_blk (IsS79.own_ne HI0.out HO_3.out (by decide)))
              have HS5_ := keep_cell hk (hHeld.2.2) (by first | (rw [add_block]; exact Kd.own_blk (IsS79.own_ne HI0.out HO_3.out (by decide))) | (show (Addr.add _ _).block ≠ _; rw [add_block]; exact Kd.own_blk (IsS79.own_ne HI0.out HO_3.out (by decide))) | exact Kd.own_blk (IsS79.own_ne HI0.out HO_3.out (by decide)))
              refine ⟨_, rfl, ?_⟩
              have n0_ := aM (Kd.R_mono (Kd.R_keep (IsS79.apart (show IsS79 w0 _ g s0_0 x1001_1 x1002_1 from zI79 HI0.out) (mR_ HO_3.out) (by decide)) hk (fun _ h => h.2)) (fun _ h => h.1))
              have n1_ := aM (KeepBut.trans (zK HK.out) hk (.inl rfl))
              have n2_ := aM (hb)
              have n3_ := aM (hi)
              clear HO_3
              clear HK
              clear HB
              clear HI0
              have HO_3 := n0_
              have HK := n1_
              have HB := n2_
              have HI0 := n3_
              clear n0_ n1_ n2_ n3_
              (try clear hb)
              (try clear hb2)
              (try clear hk)
              (try clear hi)
              refine hK.out _ _ ⟨HS3_, HS4_, HS5_⟩ (fun hHeld => ?_)
              clear hK K
              refine norm_ (a' := ?_) ?_ ?_
              rotate_left
              ·show Act.put _ (some 30) _ = _
               simp only [Act.put, xA, xB, xC, i64_w, i32_w]
               rfl
              refine zp 5 (some 31) ?_ zA74 rfl rfl (Or.inl ⟨by rfl, ?_⟩) ?_ ?_ ?_
              rotate_left
              ·intro w'
               go_simp
               with_reducible rfl
              rotate_left
              ·simp only [Act.put, xA, xB, xC, i64_w, i32_w]
               rfl
              refine zu 6 (some 32) ?_ zA71 rfl rfl (Or.inl ⟨by rfl, ?_⟩) hHeld ?_ ?_ ?_
              rotate_left
              ·rintro w' ⟨s0, s1, s2⟩
               go_simp
               with_reducible rfl
              rotate_left
              ·simp only [Act.put, xA, xB, xC, i64_w, i32_w]
               rfl
              exact norm_ (by first | (simp only [putAll, Act.put, xA, xB, xC]; done) | (simp only [putAll, Act.put, xA, xB, xC]; rfl)) (hJ4 () _ ⟨hHeld, (mR_ HO_3.out), (zI79 HI0.out), (zK HK.out), (zs (IsS79.ge HI0.out))⟩)
             ·skip
              refine box_step ?hg (N := 5) ?hd (cs := #[.int .i64 0, .int .i64 0, .int .i64 0]) (t := 63) ?hr ?_; (case hd => rfl); (case hg => rfl); (case hr => first | (go_simp; done) | (go_simp; rfl))
              intro gb497 hg w46 hbox hb
              have HS3_ := zk hb (hHeld.1)
              have HS4_ := zk hb (hHeld.2.1)
              have HS5_ := zk hb (hHeld.2.2)
              have n0_ := aM (Kd.R_below (Kd.R_elderB (mR_ HO_3.out) gb497 (Nat.le_of_eq hg.symm)) hb)
              have n1_ := aM (IsS79.below (zI79 HI0.out) hb)
              have n2_ := aM (KeepBut.trans (zK HK.out) (KeepBut.of_below hb g none) (.inl rfl))
              have n3_ := aM (below_step (zs (IsS79.ge HI0.out)) hb)
              have n4_ := aM (hbox)
              have n5_ := aM ((by rw [hg]; exact (keep_size (w := w) (g := g) (row := none) (zK HK.out)) : w.heap.size ≤ gb497))
              have n6_ := aM ((Nat.le_trans HW0.out (by rw [hg]; exact (keep_size (w := w) (g := g) (row := none) (zK HK.out)) : w.heap.size ≤ gb497) : w0.heap.size ≤ gb497))
              have n7_ := aM ((by rw [hg]; exact Nat.ne_of_lt (IsS79.lt (show IsS79 w0 _ g s0_0 x1001_1 x1002_1 from zI79 HI0.out)) : g ≠ gb497))
              have n8_ := aM ((by rw [hg]; exact Nat.ne_of_gt (IsS79.lt (show IsS79 w0 _ g s0_0 x1001_1 x1002_1 from zI79 HI0.out)) : gb497 ≠ g))
              clear HO_3
              clear HI0
              clear HK
              clear HB
              have HO_3 := n0_
              have HI0 := n1_
              have HK := n2_
              have HB := n3_
              have BK497 := n4_
              have GW497 := n5_
              have GE497 := n6_
              have NB0_497 := n7_
              have NB497_0 := n8_
              clear n0_ n1_ n2_ n3_ n4_ n5_ n6_ n7_ n8_
              clear hb hbox hg
              refine hK.out _ _ ⟨HS3_, HS4_, HS5_⟩ (fun hHeld => ?_)
              clear hK K
              refine norm_ (a' := ?_) ?_ ?_
              rotate_left
              ·show Act.put _ (some 5) _ = _
               simp only [Act.put, xA, xB, xC, i64_w, i32_w]
               rfl
              exact norm_ (by first | (simp only [putAll, Act.put, xA, xB, xC]; done) | (simp only [putAll, Act.put, xA, xB, xC]; rfl)) (hJ13 (gb497) _ ⟨hHeld, (zd0 HO_3.out), (mB_ BK497.out), GW497.out, GE497.out, NB0_497.out, NB497_0.out, (by repeat (first | (with_reducible first | exact HI0.out | apply IsS79.alloc | apply IsS79.drewN | apply IsS79.drew | apply IsS79.set_1 | apply IsS79.set_2 | refine IsS79.far ?_ NB0_497.out _) | exact HI0.out)), (by repeat (first | (with_reducible first | exact HK.out | apply KeepBut.set_ | apply keep_drewN | apply keep_drew | apply keep_alloc | refine keep_far ?_ GW497.out _) | exact HK.out)), (by repeat (first | (with_reducible first | exact HB.out | apply below_alloc | apply pw_below_drewN | apply below_drew1 | refine below_set ?_ (IsS79.ge HI0.out) | refine below_set ?_ GE497.out) | exact HB.out))⟩)
            ·skip
             rintro gb497 w47 ⟨hS_, h0_, h1_, h2_, h3_, h4_, h5_, h6_, h7_, h8_⟩
             have n0_ : Aside0 (Kd.R k63 63 w47 w.heap.size (fun k_ => k_ ≠ gb497) (.slice (some ad486) x3_1.length co45) x3_1) := ⟨h0_⟩
             have n1_ : Aside0 (w47.heap[gb497]? = some (.cells #[.int .i64 0, .int .i64 0, .int .i64 0] 63 (0, 0))) := ⟨h1_⟩
             have n2_ : Aside0 (w.heap.size ≤ gb497) := ⟨h2_⟩
             have n3_ : Aside0 (w0.heap.size ≤ gb497) := ⟨h3_⟩
             have n4_ : Aside0 (g ≠ gb497) := ⟨h4_⟩
             have n5_ : Aside0 (gb497 ≠ g) := ⟨h5_⟩
             have n6_ : Aside0 (IsS79 w0 w47 g s0_0 x1001_1 x1002_1) := ⟨h6_⟩
             have n7_ : Aside0 (KeepBut w w47 g none) := ⟨h7_⟩
             have n8_ : Aside0 (Below w0.heap.size w0 w47) := ⟨h8_⟩
             clear HO_3
             clear HI0
             clear HK
             clear HB
             clear h0_ h1_ h2_ h3_ h4_ h5_ h6_ h7_ h8_
             have HO_3 := n0_
             have BK497 := n1_
             have GW497 := n2_
             have GE497 := n3_
             have NB0_497 := n4_
             have NB497_0 := n5_
             have HI0 := n6_
             have HK := n7_
             have HB := n8_
             clear n0_ n1_ n2_ n3_ n4_ n5_ n6_ n7_ n8_
             have hHeld : (spec_l09Draw.d3 w47 ad486 t483 x3_1) := hS_
             refine norm_ (a' := ?_) ?_ ?_
             rotate_left
             ·simp only [putAll, Act.put, xA, xB, xC]
              rfl
             refine one_ (i := 4) (N := some 30) zA75 rfl rfl (one_of HT_.out (by kernel_rfl)) (by decide) (fun K hK => ?_)
             refine goes_ Try.func38 (by kernel_rfl) rfl #[.pointer (some ⟨g, 0, none⟩), .int .i64 (x3_1.length : Int)] (by rfl) rfl rfl zm ?_
             with_reducible refine (spec_l01Next.calls g s0_0 x1001_1 x1002_1 (x3_1.length : Int) t483 t484 t485 w0 _ ?side1 ?side2 A13.out).mono ?_
             (case side1 => repeat (first | (with_reducible first | exact HI0.out | apply IsS79.alloc | apply IsS79.drewN | apply IsS79.drew | apply IsS79.set_1 | apply IsS79.set_2 | refine IsS79.far ?_ NB0_497.out _) | exact HI0.out))
             (case side2 => repeat (first | (with_reducible first | exact HB.out | apply below_alloc | apply pw_below_drewN | apply below_drew1 | refine below_set ?_ (IsS79.ge HI0.out) | refine below_set ?_ GE497.out) | exact HB.out))
             rintro e w48 ⟨rfl, hi, hb, hk⟩
             have HS3_ := keep_cell hk (hHeld.1) (by first | (rw [add_block]; exact Kd.own_blk (IsS79.own_ne HI0.out HO_3.out (by decide))) | (show (Addr.add _ _).block ≠ _; rw [add_block]; exact Kd.own_blk (IsS79.own_ne HI0.out HO_3.out (by decide))) | exact Kd.own_blk (IsS79.own_ne HI0.out HO_3.out (by decide)))
             have HS4_ := keep_cell hk (hHeld.2.1) (by first | (rw [add_block]; exact Kd.own_blk (IsS79.own_ne HI0.out HO_3.out (by decide))) | (show (Addr.add _ _).block ≠ _; rw [add_block]; exact Kd.own_blk (IsS79.own_ne HI0.out HO_3.out (by decide))) | exact Kd.own_blk (IsS79.own_ne HI0.out HO_3.out (by decide)))
             have HS5_ := keep_cell hk (hHeld.2.2) (by first | (rw [add_block]; exact Kd.own_blk (IsS79.own_ne HI0.out HO_3.out (by decide))) | (show (Addr.add _ _).block ≠ _; rw [add_block]; exact Kd.own_blk (IsS79.own_ne HI0.out HO_3.out (by decide))) | exact Kd.own_blk (IsS79.own_ne HI0.out HO_3.out (by decide)))
             refine ⟨_, rfl, ?_⟩
             have n0_ := aM (Kd.R_mono (Kd.R_keep (IsS79.apart (show IsS79 w0 _ g s0_0 x1001_1 x1002_1 from by repeat (first | (with_reducible first | exact HI0.out | apply IsS79.alloc | apply IsS79.drewN | apply IsS79.drew | apply IsS79.set_1 | apply IsS79.set_2 | refine IsS79.far ?_ NB0_497.out _) | exact HI0.out)) (mR_ HO_3.out) (by decide)) hk (fun _ h => h.2)) (fun _ h => h.1))
             have n1_ := aM (KeepBut.blk hk (g' := gb497) (o := .cells #[.int .i64 0, .int .i64 0, .int .i64 0] 63 (0, 0)) (mB_ BK497.out) NB497_0.out (by simp))
             have n2_ := aM (KeepBut.trans (by repeat (first | (with_reducible first | exact HK.out | apply KeepBut.set_ | apply keep_drewN | apply keep_drew | apply keep_alloc | refine keep_far ?_ GW497.out _) | exact HK.out)) hk (.inl rfl))
             have n3_ := aM (hb)
             have n4_ := aM (hi)
             clear HO_3
             clear BK497
             clear HK
             clear HB
             clear HI0
             have HO_3 := n0_
             have BK497 := n1_
             have HK := n2_
             have HB := n3_
             have HI0 := n4_
             clear n0_ n1_ n2_ n3_ n4_
             (try clear hb)
             (try clear hb2)
             (try clear hk)
             (try clear hi)
             refine hK.out _ _ ⟨HS3_, HS4_, HS5_⟩ (fun hHeld => ?_)
             clear hK K
             refine norm_ (a' := ?_) ?_ ?_
             rotate_left
             ·show Act.put _ (some 30) _ = _
              simp only [Act.put, xA, xB, xC, i64_w, i32_w]
              rfl
             refine zp 5 (some 31) ?_ zA76 rfl rfl (Or.inl ⟨by rfl, ?_⟩) ?_ ?_ ?_
             rotate_left
             ·intro w'
              go_simp
              with_reducible rfl
             rotate_left
             ·simp only [Act.put, xA, xB, xC, i64_w, i32_w]
              rfl
             refine zu 6 (some 32) ?_ zA70 rfl rfl (Or.inl ⟨by rfl, ?_⟩) hHeld ?_ ?_ ?_
             rotate_left
             ·rintro w' ⟨s0, s1, s2⟩
              go_simp
              with_reducible rfl
             rotate_left
             ·simp only [Act.put, xA, xB, xC, i64_w, i32_w]
              rfl
             exact norm_ (by first | (simp only [putAll, Act.put, xA, xB, xC]; done) | (simp only [putAll, Act.put, xA, xB, xC]; rfl)) (hJ4_13 (gb497) _ ⟨hHeld, (mR_ HO_3.out), (mB_ BK497.out), GW497.out, GE497.out, NB0_497.out, NB497_0.out, (by repeat (first | (with_reducible first | exact HI0.out | apply IsS79.alloc | apply IsS79.drewN | apply IsS79.drew | apply IsS79.set_1 | apply IsS79.set_2 | refine IsS79.far ?_ NB0_497.out _) | exact HI0.out)), (by repeat (first | (with_reducible first | exact HK.out | apply KeepBut.set_ | apply keep_drewN | apply keep_drew | apply keep_alloc | refine keep_far ?_ GW497.out _) | exact HK.out)), (by repeat (first | (with_reducible first | exact HB.out | apply below_alloc | apply pw_below_drewN | apply below_drew1 | refine below_set ?_ (IsS79.ge HI0.out) | refine below_set ?_ GE497.out) | exact HB.out))⟩)
           ·skip
            rintro _ w47 ⟨hS_, h0_, h1_, h2_, h3_⟩
            have n0_ : Aside0 (Kd.R k63 63 w47 w.heap.size (fun _ => True) (.slice (some ad486) x3_1.length co45) x3_1) := ⟨h0_⟩
            have n1_ : Aside0 (IsS79 w0 w47 g s0_0 t484 t485) := ⟨h1_⟩
            have n2_ : Aside0 (KeepBut w w47 g none) := ⟨h2_⟩
            have n3_ : Aside0 (Below w0.heap.size w0 w47) := ⟨h3_⟩
            clear HO_3
            clear HI0
            clear HK
            clear HB
            clear h0_ h1_ h2_ h3_
            have HO_3 := n0_
            have HI0 := n1_
            have HK := n2_
            have HB := n3_
            clear n0_ n1_ n2_ n3_
            have hHeld : (spec_l09Draw.d3 w47 ad486 t483 x3_1) := hS_
            refine norm_ (a' := ?_) ?_ ?_
            rotate_left
            ·simp only [putAll, Act.put, xA, xB, xC]
             rfl
            refine two_ (i := 7) (j := 13) (Ni := some 33) (Nj := some 5) zA42 zA70 rfl rfl rfl rfl (two_of HT_.out (by kernel_rfl)) (by decide) (by decide) (fun K hK => ?_) (fun K hK => ?_)
            ·skip
             refine goes_ Try.func53 (by kernel_rfl) rfl #[] (by rfl) rfl rfl zm ?_
             with_reducible refine (spec_l09Steps.calls  t487 _ A16.out).mono ?_
             rintro e w48 ⟨v488, rfl, ho0, hb⟩
             have HS3_ := zk hb (hHeld.1)
             have HS4_ := zk hb (hHeld.2.1)
             have HS5_ := zk hb (hHeld.2.2)
             refine ⟨_, rfl, ?_⟩
             have n0_ := aM (Kd.R_elder' (mR_ HO_3.out) (Kd.R_base ho0) hb)
             have n1_ := aM (Kd.R_lower (Kd.R_new' ho0 (Kd.R_lt (mR_ HO_3.out))) (keep_size (w := w) (g := g) (row := none) (zK HK.out)))
             have n2_ := aM (IsS79.below (zI79 HI0.out) hb)
             have n3_ := aM (KeepBut.trans (zK HK.out) (KeepBut.of_below hb g none) (.inl rfl))
             have n4_ := aM (below_step (zs (IsS79.ge HI0.out)) hb)
             clear HO_3
             clear HI0
             clear HK
             clear HB
             have HO_3 := n0_
             have HO489 := n1_
             have HI0 := n2_
             have HK := n3_
             have HB := n4_
             clear n0_ n1_ n2_ n3_ n4_
             (try clear hb)
             (try clear hb2)
             (try clear hk)
             (try clear hi)
             (try clear ho0)
             obtain ⟨Ao49, co49, eo49⟩ := Kd.R_slice HO489.out
             (first | subst eo49 | (injection eo49 with f1_ f2_ f3_; have f4_ := f1_.symm; have f5_ := f3_.symm; clear f1_ f2_ f3_; subst f4_; subst f5_))
             have p493 : 0 ≤ (t490 : Int) := of_decide_eq_true za
             have q493 : t490 < (t487.length : Int) := of_decide_eq_true za
             obtain ⟨ad493, e493, hx493_0, hx493_1, hx493_2⟩ := at_T63 (Kd.R_reads' HO489.out).2.2 t490 p493 q493
             cases e493
             replace p493 := eq_true p493
             replace q493 := eq_true q493
             refine hK.out _ _ ⟨HS3_, HS4_, HS5_⟩ (fun hHeld => ?_)
             clear hK K
             refine more_ (S' := fun w' => (spec_l09Draw.c3 w' ad493 t490 t487 ((spec_l09Draw.d3 w' ad486 t483 x3_1)))) (fun _ h_ => ⟨h_.2.2.2.1, h_.2.2.2.2.1, h_.2.2.2.2.2⟩) ⟨hx493_0, hx493_1, hx493_2, hHeld.1, hHeld.2.1, hHeld.2.2⟩ (fun hHeld => ?_)
             refine norm_ (a' := ?_) ?_ ?_
             rotate_left
             ·show Act.put _ (some 33) _ = _
              simp only [Act.put, xA, xB, xC, i64_w, i32_w]
              rfl
             exact norm_ (by first | (simp only [putAll, Act.put, xA, xB, xC]; done) | (simp only [putAll, Act.put, xA, xB, xC]; rfl)) (hJ4_7 ((.slice (some ad493) t487.length co49), ad493) _ ⟨hHeld, (zd0 HO489.out), (zd0 HO_3.out), (zI79 HI0.out), (zK HK.out), (zs (IsS79.ge HI0.out)), ⟨_, rfl⟩⟩)
            ·skip
             refine box_step ?hg (N := 5) ?hd (cs := #[.int .i64 0, .int .i64 0, .int .i64 0]) (t := 63) ?hr ?_; (case hd => rfl); (case hg => rfl); (case hr => first | (go_simp; done) | (go_simp; rfl))
             intro gb497 hg w48 hbox hb
             have HS3_ := zk hb (hHeld.1)
             have HS4_ := zk hb (hHeld.2.1)
             have HS5_ := zk hb (hHeld.2.2)
             have n0_ := aM (Kd.R_below (Kd.R_elderB (mR_ HO_3.out) gb497 (Nat.le_of_eq hg.symm)) hb)
             have n1_ := aM (IsS79.below (zI79 HI0.out) hb)
             have n2_ := aM (KeepBut.trans (zK HK.out) (KeepBut.of_below hb g none) (.inl rfl))
             have n3_ := aM (below_step (zs (IsS79.ge HI0.out)) hb)
             have n4_ := aM (hbox)
             have n5_ := aM ((by rw [hg]; exact (keep_size (w := w) (g := g) (row := none) (zK HK.out)) : w.heap.size ≤ gb497))
             have n6_ := aM ((Nat.le_trans HW0.out (by rw [hg]; exact (keep_size (w := w) (g := g) (row := none) (zK HK.out)) : w.heap.size ≤ gb497) : w0.heap.size ≤ gb497))
             have n7_ := aM ((by rw [hg]; exact Nat.ne_of_lt (IsS79.lt (show IsS79 w0 _ g s0_0 t484 t485 from zI79 HI0.out)) : g ≠ gb497))
             have n8_ := aM ((by rw [hg]; exact Nat.ne_of_gt (IsS79.lt (show IsS79 w0 _ g s0_0 t484 t485 from zI79 HI0.out)) : gb497 ≠ g))
             clear HO_3
             clear HI0
             clear HK
             clear HB
             have HO_3 := n0_
             have HI0 := n1_
             have HK := n2_
             have HB := n3_
             have BK497 := n4_
             have GW497 := n5_
             have GE497 := n6_
             have NB0_497 := n7_
             have NB497_0 := n8_
             clear n0_ n1_ n2_ n3_ n4_ n5_ n6_ n7_ n8_
             clear hb hbox hg
             refine hK.out _ _ ⟨HS3_, HS4_, HS5_⟩ (fun hHeld => ?_)
             clear hK K
             refine norm_ (a' := ?_) ?_ ?_
             rotate_left
             ·show Act.put _ (some 5) _ = _
              simp only [Act.put, xA, xB, xC, i64_w, i32_w]
              rfl
             exact norm_ (by first | (simp only [putAll, Act.put, xA, xB, xC]; done) | (simp only [putAll, Act.put, xA, xB, xC]; rfl)) (hJ4_13 (gb497) _ ⟨hHeld, (zd0 HO_3.out), (mB_ BK497.out), GW497.out, GE497.out, NB0_497.out, NB497_0.out, (by repeat (first | (with_reducible first | exact HI0.out | apply IsS79.alloc | apply IsS79.drewN | apply IsS79.drew | apply IsS79.set_1 | apply IsS79.set_2 | refine IsS79.far ?_ NB0_497.out _) | exact HI0.out)), (by repeat (first | (with_reducible first | exact HK.out | apply KeepBut.set_ | apply keep_drewN | apply keep_drew | apply keep_alloc | refine keep_far ?_ GW497.out _) | exact HK.out)), (by repeat (first | (with_reducible first | exact HB.out | apply below_alloc | apply pw_below_drewN | apply below_drew1 | refine below_set ?_ (IsS79.ge HI0.out) | refine below_set ?_ GE497.out) | exact HB.out))⟩)
          ·skip
           rintro gb497 w48 ⟨hS_, h0_, h1_, h2_, h3_, h4_, h5_, h6_, h7_, h8_⟩
           have n0_ : Aside0 (Kd.R k63 63 w48 w.heap.size (fun k_ => k_ ≠ gb497) (.slice (some ad486) x3_1.length co45) x3_1) := ⟨h0_⟩
           have n1_ : Aside0 (w48.heap[gb497]? = some (.cells #[.int .i64 0, .int .i64 0, .int .i64 0] 63 (0, 0))) := ⟨h1_⟩
           have n2_ : Aside0 (w.heap.size ≤ gb497) := ⟨h2_⟩
           have n3_ : Aside0 (w0.heap.size ≤ gb497) := ⟨h3_⟩
           have n4_ : Aside0 (g ≠ gb497) := ⟨h4_⟩
           have n5_ : Aside0 (gb497 ≠ g) := ⟨h5_⟩
           have n6_ : Aside0 (IsS79 w0 w48 g s0_0 t484 t485) := ⟨h6_⟩
           have n7_ : Aside0 (KeepBut w w48 g none) := ⟨h7_⟩
           have n8_ : Aside0 (Below w0.heap.size w0 w48) := ⟨h8_⟩
           clear HO_3
           clear HI0
           clear HK
           clear HB
           clear h0_ h1_ h2_ h3_ h4_ h5_ h6_ h7_ h8_
           have HO_3 := n0_
           have BK497 := n1_
           have GW497 := n2_
           have GE497 := n3_
           have NB0_497 := n4_
           have NB497_0 := n5_
           have HI0 := n6_
           have HK := n7_
           have HB := n8_
           clear n0_ n1_ n2_ n3_ n4_ n5_ n6_ n7_ n8_
           have hHeld : (spec_l09Draw.d3 w48 ad486 t483 x3_1) := hS_
           refine norm_ (a' := ?_) ?_ ?_
           rotate_left
           ·simp only [putAll, Act.put, xA, xB, xC]
            rfl
           refine one_ (i := 7) (N := some 33) zA69 rfl rfl (one_of HT_.out (by kernel_rfl)) (by decide) (fun K hK => ?_)
           refine goes_ Try.func53 (by kernel_rfl) rfl #[] (by rfl) rfl rfl zm ?_
           with_reducible refine (spec_l09Steps.calls  t487 _ A16.out).mono ?_
           rintro e w49 ⟨v488, rfl, ho0, hb⟩
           have HS3_ := zk hb (hHeld.1)
           have HS4_ := zk hb (hHeld.2.1)
           have HS5_ := zk hb (hHeld.2.2)
           refine ⟨_, rfl, ?_⟩
           have n0_ := aM (Kd.R_elder' (mR_ HO_3.out) (Kd.R_base ho0) hb)
           have n1_ := aM (Kd.R_lower (Kd.R_newB (Kd.R_new' ho0 (Kd.R_lt (mR_ HO_3.out))) (g := gb497) (o := .cells #[.int .i64 0, .int .i64 0, .int .i64 0] 63 (0, 0)) (mB_ BK497.out)) (keep_size (w := w) (g := g) (row := none) (by repeat (first | (with_reducible first | exact HK.out | apply KeepBut.set_ | apply keep_drewN | apply keep_drew | apply keep_alloc | refine keep_far ?_ GW497.out _) | exact HK.out))))
           have n2_ := aM (IsS79.below (by repeat (first | (with_reducible first | exact HI0.out | apply IsS79.alloc | apply IsS79.drewN | apply IsS79.drew | apply IsS79.set_1 | apply IsS79.set_2 | refine IsS79.far ?_ NB0_497.out _) | exact HI0.out)) hb)
           have n3_ := aM (blk_below (g := gb497) (o := .cells #[.int .i64 0, .int .i64 0, .int .i64 0] 63 (0, 0)) (mB_ BK497.out) hb)
           have n4_ := aM (KeepBut.trans (by repeat (first | (with_reducible first | exact HK.out | apply KeepBut.set_ | apply keep_drewN | apply keep_drew | apply keep_alloc | refine keep_far ?_ GW497.out _) | exact HK.out)) (KeepBut.of_below hb g none) (.inl rfl))
           have n5_ := aM (below_step (by repeat (first | (with_reducible first | exact HB.out | apply below_alloc | apply pw_below_drewN | apply below_drew1 | refine below_set ?_ (IsS79.ge HI0.out) | refine below_set ?_ GE497.out) | exact HB.out)) hb)
           clear HO_3
           clear HI0
           clear BK497
           clear HK
           clear HB
           have HO_3 := n0_
           have HO489 := n1_
           have HI0 := n2_
           have BK497 := n3_
           have HK := n4_
           have HB := n5_
           clear n0_ n1_ n2_ n3_ n4_ n5_
           (try clear hb)
           (try clear hb2)
           (try clear hk)
           (try clear hi)
           (try clear ho0)
           obtain ⟨Ao50, co50, eo50⟩ := Kd.R_slice HO489.out
           (first | subst eo50 | (injection eo50 with f1_ f2_ f3_; have f4_ := f1_.symm; have f5_ := f3_.symm; clear f1_ f2_ f3_; subst f4_; subst f5_))
           have p493 : 0 ≤ (t490 : Int) := of_decide_eq_true za
           have q493 : t490 < (t487.length : Int) := of_decide_eq_true za
           obtain ⟨ad493, e493, hx493_0, hx493_1, hx493_2⟩ := at_T63 (Kd.R_reads' HO489.out).2.2 t490 p493 q493
           cases e493
           replace p493 := eq_true p493
           replace q493 := eq_true q493
           refine hK.out _ _ ⟨HS3_, HS4_, HS5_⟩ (fun hHeld => ?_)
           clear hK K
           refine more_ (S' := fun w' => (spec_l09Draw.c3 w' ad493 t490 t487 ((spec_l09Draw.d3 w' ad486 t483 x3_1)))) (fun _ h_ => ⟨h_.2.2.2.1, h_.2.2.2.2.1, h_.2.2.2.2.2⟩) ⟨hx493_0, hx493_1, hx493_2, hHeld.1, hHeld.2.1, hHeld.2.2⟩ (fun hHeld => ?_)
           refine norm_ (a' := ?_) ?_ ?_
           rotate_left
           ·show Act.put _ (some 33) _ = _
            simp only [Act.put, xA, xB, xC, i64_w, i32_w]
            rfl
           exact norm_ (by first | (simp only [putAll, Act.put, xA, xB, xC]; done) | (simp only [putAll, Act.put, xA, xB, xC]; rfl)) (hJ4_7_13 ((.slice (some ad493) t487.length co50, gb497), ad493) _ ⟨hHeld, (zd4 HO489.out), (zd2 HO_3.out), (mB_ BK497.out), GW497.out, GE497.out, NB0_497.out, NB497_0.out, (by repeat (first | (with_reducible first | exact HI0.out | apply IsS79.alloc | apply IsS79.drewN | apply IsS79.drew | apply IsS79.set_1 | apply IsS79.set_2 | refine IsS79.far ?_ NB0_497.out _) | exact HI0.out)), (by repeat (first | (with_reducible first | exact HK.out | apply KeepBut.set_ | apply keep_drewN | apply keep_drew | apply keep_alloc | refine keep_far ?_ GW497.out _) | exact HK.out)), (by repeat (first | (with_reducible first | exact HB.out | apply below_alloc | apply pw_below_drewN | apply below_drew1 | refine below_set ?_ (IsS79.ge HI0.out) | refine below_set ?_ GE497.out) | exact HB.out)), ⟨_, rfl⟩⟩)
         ·skip
          rintro ⟨v488, ad493⟩ w49 ⟨hS_, h0_, h1_, h2_, h3_, h4_, ⟨c9_, hE9_⟩⟩
          replace hE9_ : v488 = Value.slice (some ad493) t487.length c9_ := hE9_
          subst hE9_
          have p493 : 0 ≤ (t490 : Int) := of_decide_eq_true za
          replace p493 := eq_true p493
          have q493 : t490 < (t487.length : Int) := of_decide_eq_true za
          replace q493 := eq_true q493
          refine more_ (S' := fun w' => (spec_l09Draw.c3 w' ad493 t490 t487 ((spec_l09Draw.d3 w' ad486 t483 x3_1)))) (fun _ h_ => h_) hS_ (fun hS_ => ?_)
          have n0_ : Aside0 (Kd.R k63 63 w49 w.heap.size (fun k_ => some k_ ≠ (.slice (some ad486) x3_1.length co45 : Value).ownBlock) (.slice (some ad493) t487.length c9_) t487) := ⟨h0_⟩
          have n1_ : Aside0 (Kd.R k63 63 w49 w.heap.size (fun k_ => some k_ ≠ ((.slice (some ad493) t487.length c9_) : Value).ownBlock) (.slice (some ad486) x3_1.length co45) x3_1) := ⟨h1_⟩
          have n2_ : Aside0 (IsS79 w0 w49 g s0_0 t484 t485) := ⟨h2_⟩
          have n3_ : Aside0 (KeepBut w w49 g none) := ⟨h3_⟩
          have n4_ : Aside0 (Below w0.heap.size w0 w49) := ⟨h4_⟩
          clear HO_3
          clear HI0
          clear HK
          clear HB
          clear h0_ h1_ h2_ h3_ h4_
          have HO489 := n0_
          have HO_3 := n1_
          have HI0 := n2_
          have HK := n3_
          have HB := n4_
          clear n0_ n1_ n2_ n3_ n4_
          have hHeld : (spec_l09Draw.c3 w49 ad493 t490 t487 ((spec_l09Draw.d3 w49 ad486 t483 x3_1))) := hS_
          refine norm_ (a' := ?_) ?_ ?_
          rotate_left
          ·simp only [putAll, Act.put, xA, xB, xC]
           rfl
          refine two_ (i := 9) (j := 13) (Ni := some 35) (Nj := some 5) zA43 zA69 rfl rfl rfl rfl (two_of HT_.out (by kernel_rfl)) (by decide) (by decide) (fun K hK => ?_) (fun K hK => ?_)
          ·skip
           refine goes_ Try.func38 (by kernel_rfl) rfl #[.pointer (some ⟨g, 0, none⟩), .int .i64 6] (by rfl) rfl rfl zm ?_
           with_reducible refine (spec_l01Next.calls g s0_0 t484 t485 6 t490 t491 t492 w0 _ ?side1 ?side2 A17.out).mono ?_
           (case side1 => exact zI79 HI0.out)
           (case side2 => exact zs (IsS79.ge HI0.out))
           rintro e w50 ⟨rfl, hi, hb, hk⟩
           have HS0_ := keep_cell hk (hHeld.1) (by first | (rw [add_block]; exact Kd.own_blk (IsS79.own_ne HI0.out HO489.out (by decide))) | (show (Addr.add _ _).block ≠ _; rw [add_block]; exact Kd.own_blk (IsS79.own_ne HI0.out HO489.out (by decide))) | exact Kd.own_blk (IsS79.own_ne HI0.out HO489.out (by decide)))
           have HS1_ := keep_cell hk (hHeld.2.1) (by first | (rw [add_block]; exact Kd.own_blk (IsS79.own_ne HI0.out HO489.out (by decide))) | (show (Addr.add _ _).block ≠ _; rw [add_block]; exact Kd.own_blk (IsS79.own_ne HI0.out HO489.out (by decide))) | exact Kd.own_blk (IsS79.own_ne HI0.out HO489.out (by decide)))
           have HS2_ := keep_cell hk (hHeld.2.2.1) (by first | (rw [add_block]; exact Kd.own_blk (IsS79.own_ne HI0.out HO489.out (by decide))) | (show (Addr.add _ _).block ≠ _; rw [add_block]; exact Kd.own_blk (IsS79.own_ne HI0.out HO489.out (by decide))) | exact Kd.own_blk (IsS79.own_ne HI0.out HO489.out (by decide)))
           have HS3_ := keep_cell hk (hHeld.2.2.2.1) (by first | (rw [add_block]; exact Kd.own_blk (IsS79.own_ne HI0.out HO_3.out (by decide))) | (show (Addr.add _ _).block ≠ _; rw [add_block]; exact Kd.own_blk (IsS79.own_ne HI0.out HO_3.out (by decide))) | exact Kd.own_blk (IsS79.own_ne HI0.out HO_3.out (by decide)))
           have HS4_ := keep_cell hk (hHeld.2.2.2.2.1) (by first | (rw [add_block]; exact Kd.own_blk (IsS79.own_ne HI0.out HO_3.out (by decide))) | (show (Addr.add _ _).block ≠ _; rw [add_block]; exact Kd.own_blk (IsS79.own_ne HI0.out HO_3.out (by decide))) | exact Kd.own_blk (IsS79.own_ne HI0.out HO_3.out (by decide)))
           have HS5_ := keep_cell hk (hHeld.2.2.2.2.2) (by first | (rw [add_block]; exact Kd.own_blk (IsS79.own_ne HI0.out HO_3.out (by decide))) | (show (Addr.add _ _).block ≠ _; rw [add_block]; exact Kd.own_blk (IsS79.own_ne HI0.out HO_3.out (by decide))) | exact Kd.own_blk (IsS79.own_ne HI0.out HO_3.out (by decide)))
           refine ⟨_, rfl, ?_⟩
           have n0_ := aM (Kd.R_mono (Kd.R_keep (IsS79.apart (show IsS79 w0 _ g s0_0 t484 t485 from zI79 HI0.out) (mR_ HO_3.out) (by decide)) hk (fun _ h => h.2)) (fun _ h => h.1))
           have n1_ := aM (Kd.R_mono (Kd.R_keep (IsS79.apart (show IsS79 w0 _ g s0_0 t484 t485 from zI79 HI0.out) (mR_ HO489.out) (by decide)) hk (fun _ h => h.2)) (fun _ h => h.1))
           have n2_ := aM (KeepBut.trans (zK HK.out) hk (.inl rfl))
           have n3_ := aM (hb)
           have n4_ := aM (hi)
           clear HO_3
           clear HO489
           clear HK
           clear HB
           clear HI0
           have HO_3 := n0_
           have HO489 := n1_
           have HK := n2_
           have HB := n3_
           have HI0 := n4_
           clear n0_ n1_ n2_ n3_ n4_
           (try clear hb)
           (try clear hb2)
           (try clear hk)
           (try clear hi)
           refine hK.out _ _ ⟨HS0_, HS1_, HS2_, HS3_, HS4_, HS5_⟩ (fun hHeld => ?_)
           clear hK K
           refine norm_ (a' := ?_) ?_ ?_
           rotate_left
           ·show Act.put _ (some 35) _ = _
            simp only [Act.put, xA, xB, xC, i64_w, i32_w]
            rfl
           refine zp 10 (some 36) ?_ zA44 rfl rfl (Or.inl ⟨by rfl, ?_⟩) ?_ ?_ ?_
           rotate_left
           ·intro w'
            go_simp
            with_reducible rfl
           rotate_left
           ·simp only [Act.put, xA, xB, xC, i64_w, i32_w]
            rfl
           refine zu 11 (some 37) ?_ zA45 rfl rfl (Or.inl ⟨by rfl, ?_⟩) hHeld ?_ ?_ ?_
           rotate_left
           ·rintro w' ⟨s0, s1, s2, s3, s4, s5⟩
            go_simp
            with_reducible rfl
           rotate_left
           ·simp only [Act.put, xA, xB, xC, i64_w, i32_w]
            rfl
           exact norm_ (by first | (simp only [putAll, Act.put, xA, xB, xC]; done) | (simp only [putAll, Act.put, xA, xB, xC]; rfl)) (hJ4_7_9 (((.slice (some ad493) t487.length c9_)), ad493) _ ⟨hHeld, (mR_ HO489.out), (mR_ HO_3.out), (zI79 HI0.out), (zK HK.out), (zs (IsS79.ge HI0.out)), ⟨_, rfl⟩⟩)
          ·skip
           refine box_step ?hg (N := 5) ?hd (cs := #[.int .i64 0, .int .i64 0, .int .i64 0]) (t := 63) ?hr ?_; (case hd => rfl); (case hg => rfl); (case hr => first | (go_simp; done) | (go_simp; rfl))
           intro gb497 hg w50 hbox hb
           have HS0_ := zk hb (hHeld.1)
           have HS1_ := zk hb (hHeld.2.1)
           have HS2_ := zk hb (hHeld.2.2.1)
           have HS3_ := zk hb (hHeld.2.2.2.1)
           have HS4_ := zk hb (hHeld.2.2.2.2.1)
           have HS5_ := zk hb (hHeld.2.2.2.2.2)
           have n0_ := aM (Kd.R_below (Kd.R_elderB (mR_ HO_3.out) gb497 (Nat.le_of_eq hg.symm)) hb)
           have n1_ := aM (Kd.R_below (Kd.R_elderB (mR_ HO489.out) gb497 (Nat.le_of_eq hg.symm)) hb)
           have n2_ := aM (IsS79.below (zI79 HI0.out) hb)
           have n3_ := aM (KeepBut.trans (zK HK.out) (KeepBut.of_below hb g none) (.inl rfl))
           have n4_ := aM (below_step (zs (IsS79.ge HI0.out)) hb)
           have n5_ := aM (hbox)
           have n6_ := aM ((by rw [hg]; exact (keep_size (w := w) (g := g) (row := none) (zK HK.out)) : w.heap.size ≤ gb497))
           have n7_ := aM ((Nat.le_trans HW0.out (by rw [hg]; exact (keep_size (w := w) (g := g) (row := none) (zK HK.out)) : w.heap.size ≤ gb497) : w0.heap.size ≤ gb497))
           have n8_ := aM ((by rw [hg]; exact Nat.ne_of_lt (IsS79.lt (show IsS79 w0 _ g s0_0 t484 t485 from zI79 HI0.out)) : g ≠ gb497))
           have n9_ := aM ((by rw [hg]; exact Nat.ne_of_gt (IsS79.lt (show IsS79 w0 _ g s0_0 t484 t485 from zI79 HI0.out)) : gb497 ≠ g))
           clear HO_3
           clear HO489
           clear HI0
           clear HK
           clear HB
           have HO_3 := n0_
           have HO489 := n1_
           have HI0 := n2_
           have HK := n3_
           have HB := n4_
           have BK497 := n5_
           have GW497 := n6_
           have GE497 := n7_
           have NB0_497 := n8_
           have NB497_0 := n9_
           clear n0_ n1_ n2_ n3_ n4_ n5_ n6_ n7_ n8_ n9_
           clear hb hbox hg
           refine hK.out _ _ ⟨HS0_, HS1_, HS2_, HS3_, HS4_, HS5_⟩ (fun hHeld => ?_)
           clear hK K
           refine norm_ (a' := ?_) ?_ ?_
           rotate_left
           ·show Act.put _ (some 5) _ = _
            simp only [Act.put, xA, xB, xC, i64_w, i32_w]
            rfl
           exact norm_ (by first | (simp only [putAll, Act.put, xA, xB, xC]; done) | (simp only [putAll, Act.put, xA, xB, xC]; rfl)) (hJ4_7_13 (((.slice (some ad493) t487.length c9_), gb497), ad493) _ ⟨hHeld, (mR_ HO489.out), (mR_ HO_3.out), (mB_ BK497.out), GW497.out, GE497.out, NB0_497.out, NB497_0.out, (by repeat (first | (with_reducible first | exact HI0.out | apply IsS79.alloc | apply IsS79.drewN | apply IsS79.drew | apply IsS79.set_1 | apply IsS79.set_2 | refine IsS79.far ?_ NB0_497.out _) | exact HI0.out)), (by repeat (first | (with_reducible first | exact HK.out | apply KeepBut.set_ | apply keep_drewN | apply keep_drew | apply keep_alloc | refine keep_far ?_ GW497.out _) | exact HK.out)), (by repeat (first | (with_reducible first | exact HB.out | apply below_alloc | apply pw_below_drewN | apply below_drew1 | refine below_set ?_ (IsS79.ge HI0.out) | refine below_set ?_ GE497.out) | exact HB.out)), ⟨_, rfl⟩⟩)
        ·skip
         rintro ⟨⟨v488, gb497⟩, ad493⟩ w50 ⟨hS_, h0_, h1_, h2_, h3_, h4_, h5_, h6_, h7_, h8_, h9_, ⟨c9_, hE9_⟩⟩
         replace hE9_ : v488 = Value.slice (some ad493) t487.length c9_ := hE9_
         subst hE9_
         have p493 : 0 ≤ (t490 : Int) := of_decide_eq_true za
         replace p493 := eq_true p493
         have q493 : t490 < (t487.length : Int) := of_decide_eq_true za
         replace q493 := eq_true q493
         refine more_ (S' := fun w' => (spec_l09Draw.c3 w' ad493 t490 t487 ((spec_l09Draw.d3 w' ad486 t483 x3_1)))) (fun _ h_ => h_) hS_ (fun hS_ => ?_)
         have n0_ : Aside0 (Kd.R k63 63 w50 w.heap.size (fun k_ => some k_ ≠ (.slice (some ad486) x3_1.length co45 : Value).ownBlock ∧ k_ ≠ gb497) (.slice (some ad493) t487.length c9_) t487) := ⟨h0_⟩
         have n1_ : Aside0 (Kd.R k63 63 w50 w.heap.size (fun k_ => some k_ ≠ ((.slice (some ad493) t487.length c9_) : Value).ownBlock ∧ k_ ≠ gb497) (.slice (some ad486) x3_1.length co45) x3_1) := ⟨h1_⟩
         have n2_ : Aside0 (w50.heap[gb497]? = some (.cells #[.int .i64 0, .int .i64 0, .int .i64 0] 63 (0, 0))) := ⟨h2_⟩
         have n3_ : Aside0 (w.heap.size ≤ gb497) := ⟨h3_⟩
         have n4_ : Aside0 (w0.heap.size ≤ gb497) := ⟨h4_⟩
         have n5_ : Aside0 (g ≠ gb497) := ⟨h5_⟩
         have n6_ : Aside0 (gb497 ≠ g) := ⟨h6_⟩
         have n7_ : Aside0 (IsS79 w0 w50 g s0_0 t484 t485) := ⟨h7_⟩
         have n8_ : Aside0 (KeepBut w w50 g none) := ⟨h8_⟩
         have n9_ : Aside0 (Below w0.heap.size w0 w50) := ⟨h9_⟩
         clear HO_3
         clear HI0
         clear HK
         clear HB
         clear h0_ h1_ h2_ h3_ h4_ h5_ h6_ h7_ h8_ h9_
         have HO489 := n0_
         have HO_3 := n1_
         have BK497 := n2_
         have GW497 := n3_
         have GE497 := n4_
         have NB0_497 := n5_
         have NB497_0 := n6_
         have HI0 := n7_
         have HK := n8_
         have HB := n9_
         clear n0_ n1_ n2_ n3_ n4_ n5_ n6_ n7_ n8_ n9_
         have hHeld : (spec_l09Draw.c3 w50 ad493 t490 t487 ((spec_l09Draw.d3 w50 ad486 t483 x3_1))) := hS_
         refine norm_ (a' := ?_) ?_ ?_
         rotate_left
         ·simp only [putAll, Act.put, xA, xB, xC]
          rfl
         refine one_ (i := 9) (N := some 35) zA77 rfl rfl (one_of HT_.out (by kernel_rfl)) (by decide) (fun K hK => ?_)
         refine goes_ Try.func38 (by kernel_rfl) rfl #[.pointer (some ⟨g, 0, none⟩), .int .i64 6] (by rfl) rfl rfl zm ?_
         with_reducible refine (spec_l01Next.calls g s0_0 t484 t485 6 t490 t491 t492 w0 _ ?side1 ?side2 A17.out).mono ?_
         (case side1 => repeat (first | (with_reducible first | exact HI0.out | apply IsS79.alloc | apply IsS79.drewN | apply IsS79.drew | apply IsS79.set_1 | apply IsS79.set_2 | refine IsS79.far ?_ NB0_497.out _) | exact HI0.out))
         (case side2 => repeat (first | (with_reducible first | exact HB.out | apply below_alloc | apply pw_below_drewN | apply below_drew1 | refine below_set ?_ (IsS79.ge HI0.out) | refine below_set ?_ GE497.out) | exact HB.out))
         rintro e w51 ⟨rfl, hi, hb, hk⟩
         have HS0_ := keep_cell hk (hHeld.1) (by first | (rw [add_block]; exact Kd.own_blk (IsS79.own_ne HI0.out HO489.out (by decide))) | (show (Addr.add _ _).block ≠ _; rw [add_block]; exact Kd.own_blk (IsS79.own_ne HI0.out HO489.out (by decide))) | exact Kd.own_blk (IsS79.own_ne HI0.out HO489.out (by decide)))
         have HS1_ := keep_cell hk (hHeld.2.1) (by first | (rw [add_block]; exact Kd.own_blk (IsS79.own_ne HI0.out HO489.out (by decide))) | (show (Addr.add _ _).block ≠ _; rw [add_block]; exact Kd.own_blk (IsS79.own_ne HI0.out HO489.out (by decide))) | exact Kd.own_blk (IsS79.own_ne HI0.out HO489.out (by decide)))
         have HS2_ := keep_cell hk (hHeld.2.2.1) (by first | (rw [add_block]; exact Kd.own_blk (IsS79.own_ne HI0.out HO489.out (by decide))) | (show (Addr.add _ _).block ≠ _; rw [add_block]; exact Kd.own_blk (IsS79.own_ne HI0.out HO489.out (by decide))) | exact Kd.own_blk (IsS79.own_ne HI0.out HO489.out (by decide)))
         have HS3_ := keep_cell hk (hHeld.2.2.2.1) (by first | (rw [add_block]; exact Kd.own_blk (IsS79.own_ne HI0.out HO_3.out (by decide))) | (show (Addr.add _ _).block ≠ _; rw [add_block]; exact Kd.own_blk (IsS79.own_ne HI0.out HO_3.out (by decide))) | exact Kd.own_blk (IsS79.own_ne HI0.out HO_3.out (by decide)))
         have HS4_ := keep_cell hk (hHeld.2.2.2.2.1) (by first | (rw [add_block]; exact Kd.own_blk (IsS79.own_ne HI0.out HO_3.out (by decide))) | (show (Addr.add _ _).block ≠ _; rw [add_block]; exact Kd.own_blk (IsS79.own_ne HI0.out HO_3.out (by decide))) | exact Kd.own_blk (IsS79.own_ne HI0.out HO_3.out (by decide)))
         have HS5_ := keep_cell hk (hHeld.2.2.2.2.2) (by first | (rw [add_block]; exact Kd.own_blk (IsS79.own_ne HI0.out HO_3.out (by decide))) | (show (Addr.add _ _).block ≠ _; rw [add_block]; exact Kd.own_blk (IsS79.own_ne HI0.out HO_3.out (by decide))) | exact Kd.own_blk (IsS79.own_ne HI0.out HO_3.out (by decide)))
         refine ⟨_, rfl, ?_⟩
         have n0_ := aM (Kd.R_mono (Kd.R_keep (IsS79.apart (show IsS79 w0 _ g s0_0 t484 t485 from by repeat (first | (with_reducible first | exact HI0.out | apply IsS79.alloc | apply IsS79.drewN | apply IsS79.drew | apply IsS79.set_1 | apply IsS79.set_2 | refine IsS79.far ?_ NB0_497.out _) | exact HI0.out)) (mR_ HO_3.out) (by decide)) hk (fun _ h => h.2)) (fun _ h => h.1))
         have n1_ := aM (Kd.R_mono (Kd.R_keep (IsS79.apart (show IsS79 w0 _ g s0_0 t484 t485 from by repeat (first | (with_reducible first | exact HI0.out | apply IsS79.alloc | apply IsS79.drewN | apply IsS79.drew | apply IsS79.set_1 | apply IsS79.set_2 | refine IsS79.far ?_ NB0_497.out _) | exact HI0.out)) (mR_ HO489.out) (by decide)) hk (fun _ h => h.2)) (fun _ h => h.1))
         have n2_ := aM (KeepBut.blk hk (g' := gb497) (o := .cells #[.int .i64 0, .int .i64 0, .int .i64 0] 63 (0, 0)) (mB_ BK497.out) NB497_0.out (by simp))
         have n3_ := aM (KeepBut.trans (by repeat (first | (with_reducible first | exact HK.out | apply KeepBut.set_ | apply keep_drewN | apply keep_drew | apply keep_alloc | refine keep_far ?_ GW497.out _) | exact HK.out)) hk (.inl rfl))
         have n4_ := aM (hb)
         have n5_ := aM (hi)
         clear HO_3
         clear HO489
         clear BK497
         clear HK
         clear HB
         clear HI0
         have HO_3 := n0_
         have HO489 := n1_
         have BK497 := n2_
         have HK := n3_
         have HB := n4_
         have HI0 := n5_
         clear n0_ n1_ n2_ n3_ n4_ n5_
         (try clear hb)
         (try clear hb2)
         (try clear hk)
         (try clear hi)
         refine hK.out _ _ ⟨HS0_, HS1_, HS2_, HS3_, HS4_, HS5_⟩ (fun hHeld => ?_)
         clear hK K
         refine norm_ (a' := ?_) ?_ ?_
         rotate_left
         ·show Act.put _ (some 35) _ = _
          simp only [Act.put, xA, xB, xC, i64_w, i32_w]
          rfl
         refine zp 10 (some 36) ?_ zA78 rfl rfl (Or.inl ⟨by rfl, ?_⟩) ?_ ?_ ?_
         rotate_left
         ·intro w'
          go_simp
          with_reducible rfl
         rotate_left
         ·simp only [Act.put, xA, xB, xC, i64_w, i32_w]
          rfl
         refine zu 11 (some 37) ?_ zA68 rfl rfl (Or.inl ⟨by rfl, ?_⟩) hHeld ?_ ?_ ?_
         rotate_left
         ·rintro w' ⟨s0, s1, s2, s3, s4, s5⟩
          go_simp
          with_reducible rfl
         rotate_left
         ·simp only [Act.put, xA, xB, xC, i64_w, i32_w]
          rfl
         exact norm_ (by first | (simp only [putAll, Act.put, xA, xB, xC]; done) | (simp only [putAll, Act.put, xA, xB, xC]; rfl)) (hJ4_7_9_13 (((.slice (some ad493) t487.length c9_), gb497), ad493) _ ⟨hHeld, (mR_ HO489.out), (mR_ HO_3.out), (mB_ BK497.out), GW497.out, GE497.out, NB0_497.out, NB497_0.out, (by repeat (first | (with_reducible first | exact HI0.out | apply IsS79.alloc | apply IsS79.drewN | apply IsS79.drew | apply IsS79.set_1 | apply IsS79.set_2 | refine IsS79.far ?_ NB0_497.out _) | exact HI0.out)), (by repeat (first | (with_reducible first | exact HK.out | apply KeepBut.set_ | apply keep_drewN | apply keep_drew | apply keep_alloc | refine keep_far ?_ GW497.out _) | exact HK.out)), (by repeat (first | (with_reducible first | exact HB.out | apply below_alloc | apply pw_below_drewN | apply below_drew1 | refine below_set ?_ (IsS79.ge HI0.out) | refine below_set ?_ GE497.out) | exact HB.out)), ⟨_, rfl⟩⟩)
       ·skip
        rintro ⟨v488, ad493⟩ w50 ⟨hS_, h0_, h1_, h2_, h3_, h4_, ⟨c9_, hE9_⟩⟩
        replace hE9_ : v488 = Value.slice (some ad493) t487.length c9_ := hE9_
        subst hE9_
        have p493 : 0 ≤ (t490 : Int) := of_decide_eq_true za
        replace p493 := eq_true p493
        have q493 : t490 < (t487.length : Int) := of_decide_eq_true za
        replace q493 := eq_true q493
        refine more_ (S' := fun w' => (spec_l09Draw.c3 w' ad493 t490 t487 ((spec_l09Draw.d3 w' ad486 t483 x3_1)))) (fun _ h_ => h_) hS_ (fun hS_ => ?_)
        have n0_ : Aside0 (Kd.R k63 63 w50 w.heap.size (fun k_ => some k_ ≠ (.slice (some ad486) x3_1.length co45 : Value).ownBlock) (.slice (some ad493) t487.length c9_) t487) := ⟨h0_⟩
        have n1_ : Aside0 (Kd.R k63 63 w50 w.heap.size (fun k_ => some k_ ≠ ((.slice (some ad493) t487.length c9_) : Value).ownBlock) (.slice (some ad486) x3_1.length co45) x3_1) := ⟨h1_⟩
        have n2_ : Aside0 (IsS79 w0 w50 g s0_0 t491 t492) := ⟨h2_⟩
        have n3_ : Aside0 (KeepBut w w50 g none) := ⟨h3_⟩
        have n4_ : Aside0 (Below w0.heap.size w0 w50) := ⟨h4_⟩
        clear HO_3
        clear HI0
        clear HK
        clear HB
        clear h0_ h1_ h2_ h3_ h4_
        have HO489 := n0_
        have HO_3 := n1_
        have HI0 := n2_
        have HK := n3_
        have HB := n4_
        clear n0_ n1_ n2_ n3_ n4_
        have hHeld : (spec_l09Draw.c3 w50 ad493 t490 t487 ((spec_l09Draw.d3 w50 ad486 t483 x3_1))) := hS_
        refine norm_ (a' := ?_) ?_ ?_
        rotate_left
        ·simp only [putAll, Act.put, xA, xB, xC]
         rfl
        refine two_ (i := 12) (j := 13) (Ni := some 38) (Nj := some 5) zA46 zA68 rfl rfl rfl rfl (two_of HT_.out (by kernel_rfl)) (by decide) (by decide) (fun K hK => ?_) (fun K hK => ?_)
        ·skip
         refine goes_ Try.func52 (by kernel_rfl) rfl #[spec_l09Draw.a3 x3_1 t483, spec_l09Draw.a3 t487 t490] (by rfl) rfl rfl zm ?_
         with_reducible refine (spec_l09Add.calls ((rd_T63 x3_1 t483).f0) ((rd_T63 x3_1 t483).f1) ((rd_T63 x3_1 t483).f2) ((rd_T63 t487 t490).f0) ((rd_T63 t487 t490).f1) ((rd_T63 t487 t490).f2) t494 t495 t496 _ A20.out).mono ?_
         rintro e w51 ⟨rfl, hb⟩
         have HS0_ := zk hb (hHeld.1)
         have HS1_ := zk hb (hHeld.2.1)
         have HS2_ := zk hb (hHeld.2.2.1)
         have HS3_ := zk hb (hHeld.2.2.2.1)
         have HS4_ := zk hb (hHeld.2.2.2.2.1)
         have HS5_ := zk hb (hHeld.2.2.2.2.2)
         refine ⟨_, rfl, ?_⟩
         have n0_ := aM (Kd.R_below (mR_ HO_3.out) hb)
         have n1_ := aM (Kd.R_below (mR_ HO489.out) hb)
         have n2_ := aM (IsS79.below (zI79 HI0.out) hb)
         have n3_ := aM (KeepBut.trans (zK HK.out) (KeepBut.of_below hb g none) (.inl rfl))
         have n4_ := aM (below_step (zs (IsS79.ge HI0.out)) hb)
         clear HO_3
         clear HO489
         clear HI0
         clear HK
         clear HB
         have HO_3 := n0_
         have HO489 := n1_
         have HI0 := n2_
         have HK := n3_
         have HB := n4_
         clear n0_ n1_ n2_ n3_ n4_
         (try clear hb)
         (try clear hb2)
         (try clear hk)
         (try clear hi)
         refine hK.out _ _ ⟨HS0_, HS1_, HS2_, HS3_, HS4_, HS5_⟩ (fun hHeld => ?_)
         clear hK K
         refine norm_ (a' := ?_) ?_ ?_
         rotate_left
         ·show Act.put _ (some 38) _ = _
          simp only [Act.put, xA, xB, xC, i64_w, i32_w]
          rfl
         exact norm_ (by first | (simp only [putAll, Act.put, xA, xB, xC]; done) | (simp only [putAll, Act.put, xA, xB, xC]; rfl)) (hJ4_7_9_12 (((.slice (some ad493) t487.length c9_)), ad493) _ ⟨hHeld, (mR_ HO489.out), (mR_ HO_3.out), (zI79 HI0.out), (zK HK.out), (zs (IsS79.ge HI0.out)), ⟨_, rfl⟩⟩)
        ·skip
         refine box_step ?hg (N := 5) ?hd (cs := #[.int .i64 0, .int .i64 0, .int .i64 0]) (t := 63) ?hr ?_; (case hd => rfl); (case hg => rfl); (case hr => first | (go_simp; done) | (go_simp; rfl))
         intro gb497 hg w51 hbox hb
         have HS0_ := zk hb (hHeld.1)
         have HS1_ := zk hb (hHeld.2.1)
         have HS2_ := zk hb (hHeld.2.2.1)
         have HS3_ := zk hb (hHeld.2.2.2.1)
         have HS4_ := zk hb (hHeld.2.2.2.2.1)
         have HS5_ := zk hb (hHeld.2.2.2.2.2)
         have n0_ := aM (Kd.R_below (Kd.R_elderB (mR_ HO_3.out) gb497 (Nat.le_of_eq hg.symm)) hb)
         have n1_ := aM (Kd.R_below (Kd.R_elderB (mR_ HO489.out) gb497 (Nat.le_of_eq hg.symm)) hb)
         have n2_ := aM (IsS79.below (zI79 HI0.out) hb)
         have n3_ := aM (KeepBut.trans (zK HK.out) (KeepBut.of_below hb g none) (.inl rfl))
         have n4_ := aM (below_step (zs (IsS79.ge HI0.out)) hb)
         have n5_ := aM (hbox)
         have n6_ := aM ((by rw [hg]; exact (keep_size (w := w) (g := g) (row := none) (zK HK.out)) : w.heap.size ≤ gb497))
         have n7_ := aM ((Nat.le_trans HW0.out (by rw [hg]; exact (keep_size (w := w) (g := g) (row := none) (zK HK.out)) : w.heap.size ≤ gb497) : w0.heap.size ≤ gb497))
         have n8_ := aM ((by rw [hg]; exact Nat.ne_of_lt (IsS79.lt (show IsS79 w0 _ g s0_0 t491 t492 from zI79 HI0.out)) : g ≠ gb497))
         have n9_ := aM ((by rw [hg]; exact Nat.ne_of_gt (IsS79.lt (show IsS79 w0 _ g s0_0 t491 t492 from zI79 HI0.out)) : gb497 ≠ g))
         clear HO_3
         clear HO489
         clear HI0
         clear HK
         clear HB
         have HO_3 := n0_
         have HO489 := n1_
         have HI0 := n2_
         have HK := n3_
         have HB := n4_
         have BK497 := n5_
         have GW497 := n6_
         have GE497 := n7_
         have NB0_497 := n8_
         have NB497_0 := n9_
         clear n0_ n1_ n2_ n3_ n4_ n5_ n6_ n7_ n8_ n9_
         clear hb hbox hg
         refine hK.out _ _ ⟨HS0_, HS1_, HS2_, HS3_, HS4_, HS5_⟩ (fun hHeld => ?_)
         clear hK K
         refine norm_ (a' := ?_) ?_ ?_
         rotate_left
         ·show Act.put _ (some 5) _ = _
          simp only [Act.put, xA, xB, xC, i64_w, i32_w]
          rfl
         exact norm_ (by first | (simp only [putAll, Act.put, xA, xB, xC]; done) | (simp only [putAll, Act.put, xA, xB, xC]; rfl)) (hJ4_7_9_13 (((.slice (some ad493) t487.length c9_), gb497), ad493) _ ⟨hHeld, (mR_ HO489.out), (mR_ HO_3.out), (mB_ BK497.out), GW497.out, GE497.out, NB0_497.out, NB497_0.out, (by repeat (first | (with_reducible first | exact HI0.out | apply IsS79.alloc | apply IsS79.drewN | apply IsS79.drew | apply IsS79.set_1 | apply IsS79.set_2 | refine IsS79.far ?_ NB0_497.out _) | exact HI0.out)), (by repeat (first | (with_reducible first | exact HK.out | apply KeepBut.set_ | apply keep_drewN | apply keep_drew | apply keep_alloc | refine keep_far ?_ GW497.out _) | exact HK.out)), (by repeat (first | (with_reducible first | exact HB.out | apply below_alloc | apply pw_below_drewN | apply below_drew1 | refine below_set ?_ (IsS79.ge HI0.out) | refine below_set ?_ GE497.out) | exact HB.out)), ⟨_, rfl⟩⟩)
      ·skip
       rintro ⟨⟨v488, gb497⟩, ad493⟩ w51 ⟨hS_, h0_, h1_, h2_, h3_, h4_, h5_, h6_, h7_, h8_, h9_, ⟨c9_, hE9_⟩⟩
       replace hE9_ : v488 = Value.slice (some ad493) t487.length c9_ := hE9_
       subst hE9_
       have p493 : 0 ≤ (t490 : Int) := of_decide_eq_true za
       replace p493 := eq_true p493
       have q493 : t490 < (t487.length : Int) := of_decide_eq_true za
       replace q493 := eq_true q493
       refine more_ (S' := fun w' => (spec_l09Draw.c3 w' ad493 t490 t487 ((spec_l09Draw.d3 w' ad486 t483 x3_1)))) (fun _ h_ => h_) hS_ (fun hS_ => ?_)
       have n0_ : Aside0 (Kd.R k63 63 w51 w.heap.size (fun k_ => some k_ ≠ (.slice (some ad486) x3_1.length co45 : Value).ownBlock ∧ k_ ≠ gb497) (.slice (some ad493) t487.length c9_) t487) := ⟨h0_⟩
       have n1_ : Aside0 (Kd.R k63 63 w51 w.heap.size (fun k_ => some k_ ≠ ((.slice (some ad493) t487.length c9_) : Value).ownBlock ∧ k_ ≠ gb497) (.slice (some ad486) x3_1.length co45) x3_1) := ⟨h1_⟩
       have n2_ : Aside0 (w51.heap[gb497]? = some (.cells #[.int .i64 0, .int .i64 0, .int .i64 0] 63 (0, 0))) := ⟨h2_⟩
       have n3_ : Aside0 (w.heap.size ≤ gb497) := ⟨h3_⟩
       have n4_ : Aside0 (w0.heap.size ≤ gb497) := ⟨h4_⟩
       have n5_ : Aside0 (g ≠ gb497) := ⟨h5_⟩
       have n6_ : Aside0 (gb497 ≠ g) := ⟨h6_⟩
       have n7_ : Aside0 (IsS79 w0 w51 g s0_0 t491 t492) := ⟨h7_⟩
       have n8_ : Aside0 (KeepBut w w51 g none) := ⟨h8_⟩
       have n9_ : Aside0 (Below w0.heap.size w0 w51) := ⟨h9_⟩
       clear HO_3
       clear HI0
       clear HK
       clear HB
       clear h0_ h1_ h2_ h3_ h4_ h5_ h6_ h7_ h8_ h9_
       have HO489 := n0_
       have HO_3 := n1_
       have BK497 := n2_
       have GW497 := n3_
       have GE497 := n4_
       have NB0_497 := n5_
       have NB497_0 := n6_
       have HI0 := n7_
       have HK := n8_
       have HB := n9_
       clear n0_ n1_ n2_ n3_ n4_ n5_ n6_ n7_ n8_ n9_
       have hHeld : (spec_l09Draw.c3 w51 ad493 t490 t487 ((spec_l09Draw.d3 w51 ad486 t483 x3_1))) := hS_
       refine norm_ (a' := ?_) ?_ ?_
       rotate_left
       ·simp only [putAll, Act.put, xA, xB, xC]
        rfl
       refine one_ (i := 12) (N := some 38) zA47 rfl rfl (one_of HT_.out (by kernel_rfl)) (by decide) (fun K hK => ?_)
       refine goes_ Try.func52 (by kernel_rfl) rfl #[spec_l09Draw.a3 x3_1 t483, spec_l09Draw.a3 t487 t490] (by rfl) rfl rfl zm ?_
       with_reducible refine (spec_l09Add.calls ((rd_T63 x3_1 t483).f0) ((rd_T63 x3_1 t483).f1) ((rd_T63 x3_1 t483).f2) ((rd_T63 t487 t490).f0) ((rd_T63 t487 t490).f1) ((rd_T63 t487 t490).f2) t494 t495 t496 _ A20.out).mono ?_
       rintro e w52 ⟨rfl, hb⟩
       have HS0_ := zk hb (hHeld.1)
       have HS1_ := zk hb (hHeld.2.1)
       have HS2_ := zk hb (hHeld.2.2.1)
       have HS3_ := zk hb (hHeld.2.2.2.1)
       have HS4_ := zk hb (hHeld.2.2.2.2.1)
       have HS5_ := zk hb (hHeld.2.2.2.2.2)
       refine ⟨_, rfl, ?_⟩
       have n0_ := aM (Kd.R_below (mR_ HO_3.out) hb)
       have n1_ := aM (Kd.R_below (mR_ HO489.out) hb)
       have n2_ := aM (IsS79.below (by repeat (first | (with_reducible first | exact HI0.out | apply IsS79.alloc | apply IsS79.drewN | apply IsS79.drew | apply IsS79.set_1 | apply IsS79.set_2 | refine IsS79.far ?_ NB0_497.out _) | exact HI0.out)) hb)
       have n3_ := aM (blk_below (g := gb497) (o := .cells #[.int .i64 0, .int .i64 0, .int .i64 0] 63 (0, 0)) (mB_ BK497.out) hb)
       have n4_ := aM (KeepBut.trans (by repeat (first | (with_reducible first | exact HK.out | apply KeepBut.set_ | apply keep_drewN | apply keep_drew | apply keep_alloc | refine keep_far ?_ GW497.out _) | exact HK.out)) (KeepBut.of_below hb g none) (.inl rfl))
       have n5_ := aM (below_step (by repeat (first | (with_reducible first | exact HB.out | apply below_alloc | apply pw_below_drewN | apply below_drew1 | refine below_set ?_ (IsS79.ge HI0.out) | refine below_set ?_ GE497.out) | exact HB.out)) hb)
       clear HO_3
       clear HO489
       clear HI0
       clear BK497
       clear HK
       clear HB
       have HO_3 := n0_
       have HO489 := n1_
       have HI0 := n2_
       have BK497 := n3_
       have HK := n4_
       have HB := n5_
       clear n0_ n1_ n2_ n3_ n4_ n5_
       (try clear hb)
       (try clear hb2)
       (try clear hk)
       (try clear hi)
       refine hK.out _ _ ⟨HS0_, HS1_, HS2_, HS3_, HS4_, HS5_⟩ (fun hHeld => ?_)
       clear hK K
       refine norm_ (a' := ?_) ?_ ?_
       rotate_left
       ·show Act.put _ (some 38) _ = _
        simp only [Act.put, xA, xB, xC, i64_w, i32_w]
        rfl
       exact norm_ (by first | (simp only [putAll, Act.put, xA, xB, xC]; done) | (simp only [putAll, Act.put, xA, xB, xC]; rfl)) (hJ4_7_9_12_13 (((.slice (some ad493) t487.length c9_), gb497), ad493) _ ⟨hHeld, (mR_ HO489.out), (mR_ HO_3.out), (mB_ BK497.out), GW497.out, GE497.out, NB0_497.out, NB497_0.out, (by repeat (first | (with_reducible first | exact HI0.out | apply IsS79.alloc | apply IsS79.drewN | apply IsS79.drew | apply IsS79.set_1 | apply IsS79.set_2 | refine IsS79.far ?_ NB0_497.out _) | exact HI0.out)), (by repeat (first | (with_reducible first | exact HK.out | apply KeepBut.set_ | apply keep_drewN | apply keep_drew | apply keep_alloc | refine keep_far ?_ GW497.out _) | exact HK.out)), (by repeat (first | (with_reducible first | exact HB.out | apply below_alloc | apply pw_below_drewN | apply below_drew1 | refine below_set ?_ (IsS79.ge HI0.out) | refine below_set ?_ GE497.out) | exact HB.out)), ⟨_, rfl⟩⟩)
     ·skip
      rintro ⟨v488, ad493⟩ w51 ⟨hS_, h0_, h1_, h2_, h3_, h4_, ⟨c9_, hE9_⟩⟩
      replace hE9_ : v488 = Value.slice (some ad493) t487.length c9_ := hE9_
      subst hE9_
      have p493 : 0 ≤ (t490 : Int) := of_decide_eq_true za
      replace p493 := eq_true p493
      have q493 : t490 < (t487.length : Int) := of_decide_eq_true za
      replace q493 := eq_true q493
      refine more_ (S' := fun w' => (spec_l09Draw.c3 w' ad493 t490 t487 ((spec_l09Draw.d3 w' ad486 t483 x3_1)))) (fun _ h_ => h_) hS_ (fun hS_ => ?_)
      have n0_ : Aside0 (Kd.R k63 63 w51 w.heap.size (fun k_ => some k_ ≠ (.slice (some ad486) x3_1.length co45 : Value).ownBlock) (.slice (some ad493) t487.length c9_) t487) := ⟨h0_⟩
      have n1_ : Aside0 (Kd.R k63 63 w51 w.heap.size (fun k_ => some k_ ≠ ((.slice (some ad493) t487.length c9_) : Value).ownBlock) (.slice (some ad486) x3_1.length co45) x3_1) := ⟨h1_⟩
      have n2_ : Aside0 (IsS79 w0 w51 g s0_0 t491 t492) := ⟨h2_⟩
      have n3_ : Aside0 (KeepBut w w51 g none) := ⟨h3_⟩
      have n4_ : Aside0 (Below w0.heap.size w0 w51) := ⟨h4_⟩
      clear HO_3
      clear HI0
      clear HK
      clear HB
      clear h0_ h1_ h2_ h3_ h4_
      have HO489 := n0_
      have HO_3 := n1_
      have HI0 := n2_
      have HK := n3_
      have HB := n4_
      clear n0_ n1_ n2_ n3_ n4_
      have hHeld : (spec_l09Draw.c3 w51 ad493 t490 t487 ((spec_l09Draw.d3 w51 ad486 t483 x3_1))) := hS_
      refine norm_ (a' := ?_) ?_ ?_
      rotate_left
      ·simp only [putAll, Act.put, xA, xB, xC]
       rfl
      refine one_ (i := 13) (N := some 5) zA47 rfl rfl (one_of HT_.out (by kernel_rfl)) (by decide) (fun K hK => ?_)
      refine box_step ?hg (N := 5) ?hd (cs := #[.int .i64 0, .int .i64 0, .int .i64 0]) (t := 63) ?hr ?_; (case hd => rfl); (case hg => rfl); (case hr => first | (go_simp; done) | (go_simp; rfl))
      intro gb497 hg w52 hbox hb
      have HS0_ := zk hb (hHeld.1)
      have HS1_ := zk hb (hHeld.2.1)
      have HS2_ := zk hb (hHeld.2.2.1)
      have HS3_ := zk hb (hHeld.2.2.2.1)
      have HS4_ := zk hb (hHeld.2.2.2.2.1)
      have HS5_ := zk hb (hHeld.2.2.2.2.2)
      have n0_ := aM (Kd.R_below (Kd.R_elderB (mR_ HO_3.out) gb497 (Nat.le_of_eq hg.symm)) hb)
      have n1_ := aM (Kd.R_below (Kd.R_elderB (mR_ HO489.out) gb497 (Nat.le_of_eq hg.symm)) hb)
      have n2_ := aM (IsS79.below (zI79 HI0.out) hb)
      have n3_ := aM (KeepBut.trans (zK HK.out) (KeepBut.of_below hb g none) (.inl rfl))
      have n4_ := aM (below_step (zs (IsS79.ge HI0.out)) hb)
      have n5_ := aM (hbox)
      have n6_ := aM ((by rw [hg]; exact (keep_size (w := w) (g := g) (row := none) (zK HK.out)) : w.heap.size ≤ gb497))
      have n7_ := aM ((Nat.le_trans HW0.out (by rw [hg]; exact (keep_size (w := w) (g := g) (row := none) (zK HK.out)) : w.heap.size ≤ gb497) : w0.heap.size ≤ gb497))
      have n8_ := aM ((by rw [hg]; exact Nat.ne_of_lt (IsS79.lt (show IsS79 w0 _ g s0_0 t491 t492 from zI79 HI0.out)) : g ≠ gb497))
      have n9_ := aM ((by rw [hg]; exact Nat.ne_of_gt (IsS79.lt (show IsS79 w0 _ g s0_0 t491 t492 from zI79 HI0.out)) : gb497 ≠ g))
      clear HO_3
      clear HO489
      clear HI0
      clear HK
      clear HB
      have HO_3 := n0_
      have HO489 := n1_
      have HI0 := n2_
      have HK := n3_
      have HB := n4_
      have BK497 := n5_
      have GW497 := n6_
      have GE497 := n7_
      have NB0_497 := n8_
      have NB497_0 := n9_
      clear n0_ n1_ n2_ n3_ n4_ n5_ n6_ n7_ n8_ n9_
      clear hb hbox hg
      refine hK.out _ _ ⟨HS0_, HS1_, HS2_, HS3_, HS4_, HS5_⟩ (fun hHeld => ?_)
      clear hK K
      refine norm_ (a' := ?_) ?_ ?_
      rotate_left
      ·show Act.put _ (some 5) _ = _
       simp only [Act.put, xA, xB, xC, i64_w, i32_w]
       rfl
      exact norm_ (by first | (simp only [putAll, Act.put, xA, xB, xC]; done) | (simp only [putAll, Act.put, xA, xB, xC]; rfl)) (hJ4_7_9_12_13 (((.slice (some ad493) t487.length c9_), gb497), ad493) _ ⟨hHeld, (mR_ HO489.out), (mR_ HO_3.out), (mB_ BK497.out), GW497.out, GE497.out, NB0_497.out, NB497_0.out, (by repeat (first | (with_reducible first | exact HI0.out | apply IsS79.alloc | apply IsS79.drewN | apply IsS79.drew | apply IsS79.set_1 | apply IsS79.set_2 | refine IsS79.far ?_ NB0_497.out _) | exact HI0.out)), (by repeat (first | (with_reducible first | exact HK.out | apply KeepBut.set_ | apply keep_drewN | apply keep_drew | apply keep_alloc | refine keep_far ?_ GW497.out _) | exact HK.out)), (by repeat (first | (with_reducible first | exact HB.out | apply below_alloc | apply pw_below_drewN | apply below_drew1 | refine below_set ?_ (IsS79.ge HI0.out) | refine below_set ?_ GE497.out) | exact HB.out)), ⟨_, rfl⟩⟩)
    rintro ⟨⟨v488, gb497⟩, ad493⟩ w52 ⟨hS_, h0_, h1_, h2_, h3_, h4_, h5_, h6_, h7_, h8_, h9_, ⟨c9_, hE9_⟩⟩
    replace hE9_ : v488 = Value.slice (some ad493) t487.length c9_ := hE9_
    subst hE9_
    have p493 : 0 ≤ (t490 : Int) := of_decide_eq_true za
    replace p493 := eq_true p493
    have q493 : t490 < (t487.length : Int) := of_decide_eq_true za
    replace q493 := eq_true q493
    refine more_ (S' := fun w' => (spec_l09Draw.c3 w' ad493 t490 t487 ((spec_l09Draw.d3 w' ad486 t483 x3_1)))) (fun _ h_ => h_) hS_ (fun hS_ => ?_)
    have n0_ : Aside0 (Kd.R k63 63 w52 w.heap.size (fun k_ => some k_ ≠ (.slice (some ad486) x3_1.length co45 : Value).ownBlock ∧ k_ ≠ gb497) (.slice (some ad493) t487.length c9_) t487) := ⟨h0_⟩
    have n1_ : Aside0 (Kd.R k63 63 w52 w.heap.size (fun k_ => some k_ ≠ ((.slice (some ad493) t487.length c9_) : Value).ownBlock ∧ k_ ≠ gb497) (.slice (some ad486) x3_1.length co45) x3_1) := ⟨h1_⟩
    have n2_ : Aside0 (w52.heap[gb497]? = some (.cells #[.int .i64 0, .int .i64 0, .int .i64 0] 63 (0, 0))) := ⟨h2_⟩
    have n3_ : Aside0 (w.heap.size ≤ gb497) := ⟨h3_⟩
    have n4_ : Aside0 (w0.heap.size ≤ gb497) := ⟨h4_⟩
    have n5_ : Aside0 (g ≠ gb497) := ⟨h5_⟩
    have n6_ : Aside0 (gb497 ≠ g) := ⟨h6_⟩
    have n7_ : Aside0 (IsS79 w0 w52 g s0_0 t491 t492) := ⟨h7_⟩
    have n8_ : Aside0 (KeepBut w w52 g none) := ⟨h8_⟩
    have n9_ : Aside0 (Below w0.heap.size w0 w52) := ⟨h9_⟩
    clear HO_3
    clear HI0
    clear HK
    clear HB
    clear h0_ h1_ h2_ h3_ h4_ h5_ h6_ h7_ h8_ h9_
    have HO489 := n0_
    have HO_3 := n1_
    have BK497 := n2_
    have GW497 := n3_
    have GE497 := n4_
    have NB0_497 := n5_
    have NB497_0 := n6_
    have HI0 := n7_
    have HK := n8_
    have HB := n9_
    clear n0_ n1_ n2_ n3_ n4_ n5_ n6_ n7_ n8_ n9_
    have hHeld : (spec_l09Draw.c3 w52 ad493 t490 t487 ((spec_l09Draw.d3 w52 ad486 t483 x3_1))) := hS_
    refine norm_ (a' := ?_) ?_ ?_
    rotate_left
    ·simp only [putAll, Act.put, xA, xB, xC]
     rfl
    refine one_ (i := 14) (N := none) zA48 rfl rfl (one_of HT_.out (by kernel_rfl)) (by decide) (fun K hK => ?_)
    have hs53 : w52.cell? ⟨gb497, 0, none⟩ = some (.int .i64 0) := (blk_cell BK497.out 0).trans rfl
    have hfs53 := blk_frozen BK497.out 0
    have hs54 : w52.cell? ⟨gb497, 1, none⟩ = some (.int .i64 0) := (blk_cell BK497.out 1).trans rfl
    have hfs54 := blk_frozen BK497.out 1
    have hs55 : w52.cell? ⟨gb497, 2, none⟩ = some (.int .i64 0) := (blk_cell BK497.out 2).trans rfl
    have hfs55 := blk_frozen BK497.out 2
    refine skip_ (w1 := ?_) (by rfl) rfl ?_ ?_
    rotate_left
    ·go_simp
     rfl
    refine hK.out _ _ ⟨((cell_far (p := ⟨gb497, _, none⟩) (zd5 HO489.out) _).trans (((cell_far (p := ⟨gb497, _, none⟩) (zd5 HO489.out) _).trans (((cell_far (p := ⟨gb497, _, none⟩) (zd5 HO489.out) _).trans (hHeld.1)))))), ((cell_far (p := ⟨gb497, _, none⟩) (zd5 HO489.out) _).trans (((cell_far (p := ⟨gb497, _, none⟩) (zd5 HO489.out) _).trans (((cell_far (p := ⟨gb497, _, none⟩) (zd5 HO489.out) _).trans (hHeld.2.1)))))), ((cell_far (p := ⟨gb497, _, none⟩) (zd5 HO489.out) _).trans (((cell_far (p := ⟨gb497, _, none⟩) (zd5 HO489.out) _).trans (((cell_far (p := ⟨gb497, _, none⟩) (zd5 HO489.out) _).trans (hHeld.2.2.1)))))), ((cell_far (p := ⟨gb497, _, none⟩) (zd5 HO_3.out) _).trans (((cell_far (p := ⟨gb497, _, none⟩) (zd5 HO_3.out) _).trans (((cell_far (p := ⟨gb497, _, none⟩) (zd5 HO_3.out) _).trans (hHeld.2.2.2.1)))))), ((cell_far (p := ⟨gb497, _, none⟩) (zd5 HO_3.out) _).trans (((cell_far (p := ⟨gb497, _, none⟩) (zd5 HO_3.out) _).trans (((cell_far (p := ⟨gb497, _, none⟩) (zd5 HO_3.out) _).trans (hHeld.2.2.2.2.1)))))), ((cell_far (p := ⟨gb497, _, none⟩) (zd5 HO_3.out) _).trans (((cell_far (p := ⟨gb497, _, none⟩) (zd5 HO_3.out) _).trans (((cell_far (p := ⟨gb497, _, none⟩) (zd5 HO_3.out) _).trans (hHeld.2.2.2.2.2))))))⟩ (fun hHeld => ?_)
    clear hK K
    refine done_ (done_of HT_.out (by kernel_rfl)) ?_
    have hnb56 := NB497_0.out
    have hnc56 := NB0_497.out
    have hcz57_0 : w52.cell? ⟨gb497, 0, none⟩ = some (.int .i64 0) := (blk_cell BK497.out 0).trans rfl
    have hcz57_1 : w52.cell? ⟨gb497, 1, none⟩ = some (.int .i64 0) := (blk_cell BK497.out 1).trans rfl
    have hcz57_2 : w52.cell? ⟨gb497, 2, none⟩ = some (.int .i64 0) := (blk_cell BK497.out 2).trans rfl
    have hfz57_0 := blk_frozen BK497.out 0
    have hfz57_1 := blk_frozen BK497.out 1
    have hfz57_2 := blk_frozen BK497.out 2
    try go_wp2_with (first | ((with_reducible refine gate_callee (f := 54) rfl ?_); refine goesL_ (some 41) rfl rfl Try.func54 (by kernel_rfl) rfl #[.slice (some ad486) x3_1.length co45, .agg #[.int .i64 t494, .int .i64 t495, .int .i64 t496]] rfl zm ?_; (with_reducible refine (spec_l09Index.calls k1 _ _ x3_1 t494 t495 t496 t498 _ ?side1 ?side2 A21.out).mono ?_); (case side1 => refine (Kd.R_reads' (e := 63) (base := w.heap.size) (ok := fun k_ => (some k_ ≠ ((.slice (some ad493) t487.length c9_) : Value).ownBlock ∧ k_ ≠ gb497)) (n := x3_1.length) (c := co45) ?_).2.2; exact (by (with_reducible repeat (first | apply Kd.R_alloc | apply Kd.R_drewN | apply Kd.R_drew)); exact (Kd.R_mono (Kd.R_far (p := ⟨gb497, 2, none⟩) (Kd.R_far (p := ⟨gb497, 1, none⟩) (Kd.R_far (p := ⟨gb497, 0, none⟩) (Kd.R_mono HO_3.out (fun k_ hk => (⟨hk, hk.2⟩ : _ ∧ k_ ≠ gb497))) (fun _ hk => hk.2) (.int .i64 t494)) (fun _ hk => hk.2) (.int .i64 t495)) (fun _ hk => hk.2) (.int .i64 t496)) (fun _ h_ => h_.1)))); (case side2 => exact (Kd.R_reads' HO_3.out).2.1); rintro e w58 ⟨rfl, hb⟩; refine ⟨_, rfl, ?_⟩; have n0_ := aM (Kd.R_below (by (with_reducible repeat (first | apply Kd.R_alloc | apply Kd.R_drewN | apply Kd.R_drew)); exact (Kd.R_mono (Kd.R_far (p := ⟨gb497, 2, none⟩) (Kd.R_far (p := ⟨gb497, 1, none⟩) (Kd.R_far (p := ⟨gb497, 0, none⟩) (Kd.R_mono HO_3.out (fun k_ hk => (⟨hk, hk.2⟩ : _ ∧ k_ ≠ gb497))) (fun _ hk => hk.2) (.int .i64 t494)) (fun _ hk => hk.2) (.int .i64 t495)) (fun _ hk => hk.2) (.int .i64 t496)) (fun _ h_ => h_.1))) hb); have n1_ := aM (Kd.R_below (by (with_reducible repeat (first | apply Kd.R_alloc | apply Kd.R_drewN | apply Kd.R_drew)); exact (Kd.R_mono (Kd.R_far (p := ⟨gb497, 2, none⟩) (Kd.R_far (p := ⟨gb497, 1, none⟩) (Kd.R_far (p := ⟨gb497, 0, none⟩) (Kd.R_mono HO489.out (fun k_ hk => (⟨hk, hk.2⟩ : _ ∧ k_ ≠ gb497))) (fun _ hk => hk.2) (.int .i64 t494)) (fun _ hk => hk.2) (.int .i64 t495)) (fun _ hk => hk.2) (.int .i64 t496)) (fun _ h_ => h_.1))) hb); have n2_ := aM (IsS79.below (show IsS79 w0 (((w52.setCell ⟨gb497, 0, none⟩ (.int .i64 t494)).setCell ⟨gb497, 1, none⟩ (.int .i64 t495)).setCell ⟨gb497, 2, none⟩ (.int .i64 t496)) g s0_0 t491 t492 from by repeat (first | (with_reducible first | exact HI0.out | apply IsS79.alloc | apply IsS79.drewN | apply IsS79.drew | apply IsS79.set_1 | apply IsS79.set_2 | refine IsS79.far ?_ NB0_497.out _) | exact HI0.out)) hb); have n3_ := aM (blk_below (g := gb497) (o := .cells #[.int .i64 t494, .int .i64 t495, .int .i64 t496] 63 (0, 0)) (by (with_reducible repeat (first | refine blk_drewN ?_ _ | refine blk_drew ?_ | refine blk_alloc ?_ _)); refine blk_put (cs := #[.int .i64 t494, .int .i64 t495, .int .i64 0]) ?_ 2 _ rfl; (with_reducible repeat (first | refine blk_drewN ?_ _ | refine blk_drew ?_ | refine blk_alloc ?_ _)); refine blk_put (cs := #[.int .i64 t494, .int .i64 0, .int .i64 0]) ?_ 1 _ rfl; (with_reducible repeat (first | refine blk_drewN ?_ _ | refine blk_drew ?_ | refine blk_alloc ?_ _)); refine blk_put (cs := #[.int .i64 0, .int .i64 0, .int .i64 0]) ?_ 0 _ rfl; (with_reducible repeat (first | refine blk_drewN ?_ _ | refine blk_drew ?_ | refine blk_alloc ?_ _)); exact BK497.out) hb); have n4_ := aM (KeepBut.trans (by repeat (first | (with_reducible first | exact HK.out | apply KeepBut.set_ | apply keep_drewN | apply keep_drew | apply keep_alloc | refine keep_far ?_ GW497.out _) | exact HK.out)) (KeepBut.of_below hb g none) (.inl rfl)); have n5_ := aM (below_step (by repeat (first | (with_reducible first | exact HB.out | apply below_alloc | apply pw_below_drewN | apply below_drew1 | refine below_set ?_ (IsS79.ge HI0.out) | refine below_set ?_ GE497.out) | exact HB.out)) hb); clear HO_3 HO489 HI0 BK497 HK HB; have HO_3 := n0_; have HO489 := n1_; have HI0 := n2_; have BK497 := n3_; have HK := n4_; have HB := n5_; clear n0_ n1_ n2_ n3_ n4_ n5_; (try clear hb); (try clear hb2); (try clear hk); (try clear hi)))
    go_roundg k1
    case measure => have := HK1.out; omega
    case rel => exact ⟨(x3_1), (wrap64 (x4_1 - 1)), (t491), (t492), zr, H', ⟨by have := HK1.out; omega⟩, ⟨zd1 HO_3.out⟩, ⟨by repeat (first | (with_reducible first | exact HI0.out | apply IsS79.alloc | apply IsS79.drewN | apply IsS79.drew | apply IsS79.set_1 | apply IsS79.set_2 | refine IsS79.far ?_ NB0_497.out _) | exact HI0.out)⟩, ⟨by repeat (first | (with_reducible first | exact HK.out | apply KeepBut.set_ | apply keep_drewN | apply keep_drew | apply keep_alloc | refine keep_far ?_ GW497.out _) | exact HK.out)⟩, ⟨by repeat (first | (with_reducible first | exact HB.out | apply below_alloc | apply pw_below_drewN | apply below_drew1 | refine below_set ?_ (IsS79.ge HI0.out) | refine below_set ?_ GE497.out) | exact HB.out)⟩⟩
   rw [if_pos c22] at H
   have c22b0 : decide (t498 < 0) = true := decide_eq_true c22
   clear c22
   by_cases c23 : x3_1.length < 5864062014805
   rotate_left
   ·rw [if_neg c23] at H
    exact absurd H (by simp)
   rw [if_pos c23] at H
   have LMc23 := aM c23
   clear c23
   obtain ⟨y499, hy499⟩ : ∃ y_ : List (S63), y_ = (x3_1 ++ [(⟨t494, t495, t496⟩ : S63)]) := ⟨_, rfl⟩
   replace H : ((spec_l09Sort.f k1 y499).bind fun t502 => (spec_l09Draw.l0 k1 t502 (wrap64 (x4_1 - 1)) s0_0 t491 t492)) = some (r1, r2, r3) := zy H hy499
   have Ny499 := aM hy499
   clear hy499
   replace H := Option.bind_eq_some_iff.mp H
   obtain ⟨t502, A240, H⟩ := H
   replace H : (spec_l09Draw.l0 k1 t502 (wrap64 (x4_1 - 1)) s0_0 t491 t492) = some (r1, r2, r3) := H
   have A24 := aM A240
   clear A240
   have H' := aM H
   clear H
   try go_wp2
   have n0_ := aM (Kd.R_drew HO_3.out)
   have n1_ := aM (IsS79.drew HI0.out)
   have n2_ := aM (keep_drew HK.out)
   have n3_ := aM (below_drew1 HB.out)
   clear HO_3
   clear HI0
   clear HK
   clear HB
   have HO_3 := n0_
   have HI0 := n1_
   have HK := n2_
   have HB := n3_
   clear n0_ n1_ n2_ n3_
   obtain ⟨Ao26, co26, eo26⟩ := Kd.R_slice HO_3.out
   (first | subst eo26 | (injection eo26 with f1_ f2_ f3_; have f4_ := f1_.symm; have f5_ := f3_.symm; clear f1_ f2_ f3_; subst f4_; subst f5_))
   have p486 : 0 ≤ (t483 : Int) := of_decide_eq_true za
   have q486 : t483 < (x3_1.length : Int) := of_decide_eq_true za
   obtain ⟨ad486, e486, hx486_0, hx486_1, hx486_2⟩ := at_T63 (Kd.R_reads' HO_3.out).2.2 t483 p486 q486
   cases e486
   replace p486 := eq_true p486
   replace q486 := eq_true q486
   refine start_ (n := 15) (S := fun w' => (spec_l09Draw.d3 w' ad486 t483 x3_1)) (ds := []) zA33 (by kernel_rfl) rfl rfl ⟨hx486_0, hx486_1, hx486_2⟩ (fun hHeld => ?_); refine with_tabW spec_l09Draw.tab5 spec_l09Draw.bits5 (fun HT_ HW_ => ?_)
   generalize wr.drew = w25 at HO_3 HI0 HK HB hx486_0 hx486_1 hx486_2 hHeld ⊢
   refine zp 0 (some 26) ?_ zA34 rfl rfl (Or.inl ⟨by rfl, ?_⟩) ?_ ?_ ?_
   rotate_left
   ·intro w'
    go_simp
    with_reducible rfl
   rotate_left
   ·simp only [Act.put, xA, xB, xC, i64_w, i32_w]
    rfl
   refine zp 1 (some 27) ?_ zA35 rfl rfl (Or.inl ⟨by rfl, ?_⟩) ?_ ?_ ?_
   rotate_left
   ·intro w'
    go_simp
    with_reducible rfl
   rotate_left
   ·simp only [Act.put, xA, xB, xC, i64_w, i32_w]
    rfl
   refine zp 2 (some 28) ?_ zA36 rfl rfl (Or.inl ⟨by rfl, ?_⟩) ?_ ?_ ?_
   rotate_left
   ·intro w'
    go_simp
    with_reducible rfl
   rotate_left
   ·simp only [Act.put, xA, xB, xC, i64_w, i32_w]
    rfl
   refine zp 3 (some 29) ?_ zA37 rfl rfl (Or.inl ⟨by rfl, ?_⟩) ?_ ?_ ?_
   rotate_left
   ·intro w'
    go_simp
    with_reducible rfl
   rotate_left
   ·simp only [Act.put, xA, xB, xC, i64_w, i32_w]
    rfl
   refine zp 8 (some 34) ?_ zA67 rfl rfl (Or.inl ⟨by rfl, ?_⟩) ?_ ?_ ?_
   rotate_left
   ·intro w'
    go_simp
    with_reducible rfl
   rotate_left
   ·simp only [Act.put, xA, xB, xC, i64_w, i32_w]
    rfl
   refine join9_ (σ := (Value × Nat) × Addr) (fun s_ w' => (spec_l09Draw.c3 w' (s_.2) t490 t487 ((spec_l09Draw.d3 w' ad486 t483 x3_1)))) 1 zA47 (fun s_ => [(30, .int .i64 t483), (33, s_.1.1), (35, .int .i64 t490), (38, .agg #[.int .i64 t494, .int .i64 t495, .int .i64 t496]), (5, .pointer (some ⟨s_.1.2, 0, none⟩)), (31, .pointer (some (ad486.add ((t483).toNat * 3)))), (32, spec_l09Draw.a3 x3_1 t483), (36, .pointer (some (s_.2.add ((t490).toNat * 3)))), (37, spec_l09Draw.a3 t487 t490)]) (fun s_ w' => ((spec_l09Draw.c3 w' (s_.2) t490 t487 ((spec_l09Draw.d3 w' ad486 t483 x3_1)))) ∧ (Kd.R k63 63 w' w.heap.size (fun k_ => some k_ ≠ (.slice (some ad486) x3_1.length co26 : Value).ownBlock ∧ k_ ≠ s_.1.2) s_.1.1 t487) ∧ (Kd.R k63 63 w' w.heap.size (fun k_ => some k_ ≠ (s_.1.1 : Value).ownBlock ∧ k_ ≠ s_.1.2) (.slice (some ad486) x3_1.length co26) x3_1) ∧ (w'.heap[s_.1.2]? = some (.cells #[.int .i64 0, .int .i64 0, .int .i64 0] 63 (0, 0))) ∧ (w.heap.size ≤ s_.1.2) ∧ (w0.heap.size ≤ s_.1.2) ∧ (g ≠ s_.1.2) ∧ (s_.1.2 ≠ g) ∧ (IsS79 w0 w' g s0_0 t491 t492) ∧ (KeepBut w w' g none) ∧ (Below w0.heap.size w0 w') ∧ (∃ c9_, s_.1.1 = Value.slice (some s_.2) t487.length c9_)) ?_ ?_
   rotate_left
   ·intro hJ4_7_9_12_13
    refine join9_ (σ := (Value) × Addr) (fun s_ w' => (spec_l09Draw.c3 w' (s_.2) t490 t487 ((spec_l09Draw.d3 w' ad486 t483 x3_1)))) 2 zA46 (fun s_ => [(30, .int .i64 t483), (33, s_.1), (35, .int .i64 t490), (38, .agg #[.int .i64 t494, .int .i64 t495, .int .i64 t496]), (31, .pointer (some (ad486.add ((t483).toNat * 3)))), (32, spec_l09Draw.a3 x3_1 t483), (36, .pointer (some (s_.2.add ((t490).toNat * 3)))), (37, spec_l09Draw.a3 t487 t490)]) (fun s_ w' => ((spec_l09Draw.c3 w' (s_.2) t490 t487 ((spec_l09Draw.d3 w' ad486 t483 x3_1)))) ∧ (Kd.R k63 63 w' w.heap.size (fun k_ => some k_ ≠ (.slice (some ad486) x3_1.length co26 : Value).ownBlock) s_.1 t487) ∧ (Kd.R k63 63 w' w.heap.size (fun k_ => some k_ ≠ (s_.1 : Value).ownBlock) (.slice (some ad486) x3_1.length co26) x3_1) ∧ (IsS79 w0 w' g s0_0 t491 t492) ∧ (KeepBut w w' g none) ∧ (Below w0.heap.size w0 w') ∧ (∃ c9_, s_.1 = Value.slice (some s_.2) t487.length c9_)) ?_ ?_
    rotate_left
    ·intro hJ4_7_9_12
     refine join9_ (σ := (Value × Nat) × Addr) (fun s_ w' => (spec_l09Draw.c3 w' (s_.2) t490 t487 ((spec_l09Draw.d3 w' ad486 t483 x3_1)))) 2 zA68 (fun s_ => [(30, .int .i64 t483), (33, s_.1.1), (35, .int .i64 t490), (5, .pointer (some ⟨s_.1.2, 0, none⟩)), (31, .pointer (some (ad486.add ((t483).toNat * 3)))), (32, spec_l09Draw.a3 x3_1 t483), (36, .pointer (some (s_.2.add ((t490).toNat * 3)))), (37, spec_l09Draw.a3 t487 t490)]) (fun s_ w' => ((spec_l09Draw.c3 w' (s_.2) t490 t487 ((spec_l09Draw.d3 w' ad486 t483 x3_1)))) ∧ (Kd.R k63 63 w' w.heap.size (fun k_ => some k_ ≠ (.slice (some ad486) x3_1.length co26 : Value).ownBlock ∧ k_ ≠ s_.1.2) s_.1.1 t487) ∧ (Kd.R k63 63 w' w.heap.size (fun k_ => some k_ ≠ (s_.1.1 : Value).ownBlock ∧ k_ ≠ s_.1.2) (.slice (some ad486) x3_1.length co26) x3_1) ∧ (w'.heap[s_.1.2]? = some (.cells #[.int .i64 0, .int .i64 0, .int .i64 0] 63 (0, 0))) ∧ (w.heap.size ≤ s_.1.2) ∧ (w0.heap.size ≤ s_.1.2) ∧ (g ≠ s_.1.2) ∧ (s_.1.2 ≠ g) ∧ (IsS79 w0 w' g s0_0 t491 t492) ∧ (KeepBut w w' g none) ∧ (Below w0.heap.size w0 w') ∧ (∃ c9_, s_.1.1 = Value.slice (some s_.2) t487.length c9_)) ?_ ?_
     rotate_left
     ·intro hJ4_7_9_13
      refine join9_ (σ := (Value) × Addr) (fun s_ w' => (spec_l09Draw.c3 w' (s_.2) t490 t487 ((spec_l09Draw.d3 w' ad486 t483 x3_1)))) 3 zA45 (fun s_ => [(30, .int .i64 t483), (33, s_.1), (35, .int .i64 t490), (31, .pointer (some (ad486.add ((t483).toNat * 3)))), (32, spec_l09Draw.a3 x3_1 t483), (36, .pointer (some (s_.2.add ((t490).toNat * 3)))), (37, spec_l09Draw.a3 t487 t490)]) (fun s_ w' => ((spec_l09Draw.c3 w' (s_.2) t490 t487 ((spec_l09Draw.d3 w' ad486 t483 x3_1)))) ∧ (Kd.R k63 63 w' w.heap.size (fun k_ => some k_ ≠ (.slice (some ad486) x3_1.length co26 : Value).ownBlock) s_.1 t487) ∧ (Kd.R k63 63 w' w.heap.size (fun k_ => some k_ ≠ (s_.1 : Value).ownBlock) (.slice (some ad486) x3_1.length co26) x3_1) ∧ (IsS79 w0 w' g s0_0 t491 t492) ∧ (KeepBut w w' g none) ∧ (Below w0.heap.size w0 w') ∧ (∃ c9_, s_.1 = Value.slice (some s_.2) t487.length c9_)) ?_ ?_
      rotate_left
      ·intro hJ4_7_9
       refine join9_ (σ := (Value × Nat) × Addr) (fun s_ w' => (spec_l09Draw.c3 w' (s_.2) t490 t487 ((spec_l09Draw.d3 w' ad486 t483 x3_1)))) 5 zA69 (fun s_ => [(30, .int .i64 t483), (33, s_.1.1), (5, .pointer (some ⟨s_.1.2, 0, none⟩)), (31, .pointer (some (ad486.add ((t483).toNat * 3)))), (32, spec_l09Draw.a3 x3_1 t483)]) (fun s_ w' => ((spec_l09Draw.c3 w' (s_.2) t490 t487 ((spec_l09Draw.d3 w' ad486 t483 x3_1)))) ∧ (Kd.R k63 63 w' w.heap.size (fun k_ => some k_ ≠ (.slice (some ad486) x3_1.length co26 : Value).ownBlock ∧ k_ ≠ s_.1.2) s_.1.1 t487) ∧ (Kd.R k63 63 w' w.heap.size (fun k_ => some k_ ≠ (s_.1.1 : Value).ownBlock ∧ k_ ≠ s_.1.2) (.slice (some ad486) x3_1.length co26) x3_1) ∧ (w'.heap[s_.1.2]? = some (.cells #[.int .i64 0, .int .i64 0, .int .i64 0] 63 (0, 0))) ∧ (w.heap.size ≤ s_.1.2) ∧ (w0.heap.size ≤ s_.1.2) ∧ (g ≠ s_.1.2) ∧ (s_.1.2 ≠ g) ∧ (IsS79 w0 w' g s0_0 t484 t485) ∧ (KeepBut w w' g none) ∧ (Below w0.heap.size w0 w') ∧ (∃ c9_, s_.1.1 = Value.slice (some s_.2) t487.length c9_)) ?_ ?_
       rotate_left
       ·intro hJ4_7_13
        refine join9_ (σ := (Value) × Addr) (fun s_ w' => (spec_l09Draw.c3 w' (s_.2) t490 t487 ((spec_l09Draw.d3 w' ad486 t483 x3_1)))) 6 zA42 (fun s_ => [(30, .int .i64 t483), (33, s_.1), (31, .pointer (some (ad486.add ((t483).toNat * 3)))), (32, spec_l09Draw.a3 x3_1 t483)]) (fun s_ w' => ((spec_l09Draw.c3 w' (s_.2) t490 t487 ((spec_l09Draw.d3 w' ad486 t483 x3_1)))) ∧ (Kd.R k63 63 w' w.heap.size (fun k_ => some k_ ≠ (.slice (some ad486) x3_1.length co26 : Value).ownBlock) s_.1 t487) ∧ (Kd.R k63 63 w' w.heap.size (fun k_ => some k_ ≠ (s_.1 : Value).ownBlock) (.slice (some ad486) x3_1.length co26) x3_1) ∧ (IsS79 w0 w' g s0_0 t484 t485) ∧ (KeepBut w w' g none) ∧ (Below w0.heap.size w0 w') ∧ (∃ c9_, s_.1 = Value.slice (some s_.2) t487.length c9_)) ?_ ?_
        rotate_left
        ·intro hJ4_7
         refine join_ (σ := Nat) 6 zA70 (fun s_ => [(30, .int .i64 t483), (5, .pointer (some ⟨s_, 0, none⟩)), (31, .pointer (some (ad486.add ((t483).toNat * 3)))), (32, spec_l09Draw.a3 x3_1 t483)]) (fun s_ w' => ((spec_l09Draw.d3 w' ad486 t483 x3_1)) ∧ (Kd.R k63 63 w' w.heap.size (fun k_ => k_ ≠ s_) (.slice (some ad486) x3_1.length co26) x3_1) ∧ (w'.heap[s_]? = some (.cells #[.int .i64 0, .int .i64 0, .int .i64 0] 63 (0, 0))) ∧ (w.heap.size ≤ s_) ∧ (w0.heap.size ≤ s_) ∧ (g ≠ s_) ∧ (s_ ≠ g) ∧ (IsS79 w0 w' g s0_0 t484 t485) ∧ (KeepBut w w' g none) ∧ (Below w0.heap.size w0 w')) ?_ ?_
         rotate_left
         ·intro hJ4_13
          refine join_ (σ := Unit) 7 zA71 (fun s_ => [(30, .int .i64 t483), (31, .pointer (some (ad486.add ((t483).toNat * 3)))), (32, spec_l09Draw.a3 x3_1 t483)]) (fun s_ w' => ((spec_l09Draw.d3 w' ad486 t483 x3_1)) ∧ (Kd.R k63 63 w' w.heap.size (fun _ => True) (.slice (some ad486) x3_1.length co26) x3_1) ∧ (IsS79 w0 w' g s0_0 t484 t485) ∧ (KeepBut w w' g none) ∧ (Below w0.heap.size w0 w')) ?_ ?_
          rotate_left
          ·intro hJ4
           refine join_ (σ := Nat) 9 zA72 (fun s_ => [(5, .pointer (some ⟨s_, 0, none⟩))]) (fun s_ w' => ((spec_l09Draw.d3 w' ad486 t483 x3_1)) ∧ (Kd.R k63 63 w' w.heap.size (fun k_ => k_ ≠ s_) (.slice (some ad486) x3_1.length co26) x3_1) ∧ (w'.heap[s_]? = some (.cells #[.int .i64 0, .int .i64 0, .int .i64 0] 63 (0, 0))) ∧ (w.heap.size ≤ s_) ∧ (w0.heap.size ≤ s_) ∧ (g ≠ s_) ∧ (s_ ≠ g) ∧ (IsS79 w0 w' g s0_0 x1001_1 x1002_1) ∧ (KeepBut w w' g none) ∧ (Below w0.heap.size w0 w')) ?_ ?_
           rotate_left
           ·intro hJ13
            refine two_ (i := 4) (j := 13) (Ni := some 30) (Nj := some 5) zA73 zA72 rfl rfl rfl rfl (two_of HT_.out (by kernel_rfl)) (by decide) (by decide) (fun K hK => ?_) (fun K hK => ?_)
            ·skip
             refine goes_ Try.func38 (by kernel_rfl) rfl #[.pointer (some ⟨g, 0, none⟩), .int .i64 (x3_1.length : Int)] (by rfl) rfl rfl zm ?_
             with_reducible refine (spec_l01Next.calls g s0_0 x1001_1 x1002_1 (x3_1.length : Int) t483 t484 t485 w0 _ ?side1 ?side2 A13.out).mono ?_
             (case side1 => exact zI79 HI0.out)
             (case side2 => exact zs (IsS79.ge HI0.out))
             rintro e w27 ⟨rfl, hi, hb, hk⟩
             have HS3_ := keep_cell hk (hHeld.1) (by first | (rw [add_block]; exact Kd.own_blk (IsS79.own_ne HI0.out HO_3.out (by decide))) | (show (Addr.add _ _).block ≠ _; rw [add_block]; exact Kd.own_blk (IsS79.own_ne HI0.out HO_3.out (by decide))) | exact Kd.own_blk (IsS79.own_ne HI0.out HO_3.out (by decide)))
             have HS4_ := keep_cell hk (hHeld.2.1) (by first | (rw [add_block]; exact Kd.own_blk (IsS79.own_ne HI0.out HO_3.out (by decide))) | (show (Addr.add _ _).block ≠ _; rw [add_block]; exact Kd.own_blk (IsS79.own_ne HI0.out HO_3.out (by decide))) | exact Kd.own_blk (IsS79.own_ne HI0.out HO_3.out (by decide)))
             have HS5_ := keep_cell hk (hHeld.2.2) (by first | (rw [add_block]; exact Kd.own_blk (IsS79.own_ne HI0.out HO_3.out (by decide))) | (show (Addr.add _ _).block ≠ _; rw [add_block]; exact Kd.own_blk (IsS79.own_ne HI0.out HO_3.out (by decide))) | exact Kd.own_blk (IsS79.own_ne HI0.out HO_3.out (by decide)))
             refine ⟨_, rfl, ?_⟩
             have n0_ := aM (Kd.R_mono (Kd.R_keep (IsS79.apart (show IsS79 w0 _ g s0_0 x1001_1 x1002_1 from zI79 HI0.out) (mR_ HO_3.out) (by decide)) hk (fun _ h => h.2)) (fun _ h => h.1))
             have n1_ := aM (KeepBut.trans (zK HK.out) hk (.inl rfl))
             have n2_ := aM (hb)
             have n3_ := aM (hi)
             clear HO_3
             clear HK
             clear HB
             clear HI0
             have HO_3 := n0_
             have HK := n1_
             have HB := n2_
             have HI0 := n3_
             clear n0_ n1_ n2_ n3_
             (try clear hb)
             (try clear hb2)
             (try clear hk)
             (try clear hi)
             refine hK.out _ _ ⟨HS3_, HS4_, HS5_⟩ (fun hHeld => ?_)
             clear hK K
             refine norm_ (a' := ?_) ?_ ?_
             rotate_left
             ·show Act.put _ (some 30) _ = _
              simp only [Act.put, xA, xB, xC, i64_w, i32_w]
              rfl
             refine zp 5 (some 31) ?_ zA74 rfl rfl (Or.inl ⟨by rfl, ?_⟩) ?_ ?_ ?_
             rotate_left
             ·intro w'
              go_simp
              with_reducible rfl
             rotate_left
             ·simp only [Act.put, xA, xB, xC, i64_w, i32_w]
              rfl
             refine zu 6 (some 32) ?_ zA71 rfl rfl (Or.inl ⟨by rfl, ?_⟩) hHeld ?_ ?_ ?_
             rotate_left
             ·rintro w' ⟨s0, s1, s2⟩
              go_simp
              with_reducible rfl
             rotate_left
             ·simp only [Act.put, xA, xB, xC, i64_w, i32_w]
              rfl
             exact norm_ (by first | (simp only [putAll, Act.put, xA, xB, xC]; done) | (simp only [putAll, Act.put, xA, xB, xC]; rfl)) (hJ4 () _ ⟨hHeld, (mR_ HO_3.out), (zI79 HI0.out), (zK HK.out), (zs (IsS79.ge HI0.out))⟩)
            ·skip
             refine box_step ?hg (N := 5) ?hd (cs := #[.int .i64 0, .int .i64 0, .int .i64 0]) (t := 63) ?hr ?_; (case hd => rfl); (case hg => rfl); (case hr => first | (go_simp; done) | (go_simp; rfl))
             intro gb497 hg w27 hbox hb
             have HS3_ := zk hb (hHeld.1)
             have HS4_ := zk hb (hHeld.2.1)
             have HS5_ := zk hb (hHeld.2.2)
             have n0_ := aM (Kd.R_below (Kd.R_elderB (mR_ HO_3.out) gb497 (Nat.le_of_eq hg.symm)) hb)
             have n1_ := aM (IsS79.below (zI79 HI0.out) hb)
             have n2_ := aM (KeepBut.trans (zK HK.out) (KeepBut.of_below hb g none) (.inl rfl))
             have n3_ := aM (below_step (zs (IsS79.ge HI0.out)) hb)
             have n4_ := aM (hbox)
             have n5_ := aM ((by rw [hg]; exact (keep_size (w := w) (g := g) (row := none) (zK HK.out)) : w.heap.size ≤ gb497))
             have n6_ := aM ((Nat.le_trans HW0.out (by rw [hg]; exact (keep_size (w := w) (g := g) (row := none) (zK HK.out)) : w.heap.size ≤ gb497) : w0.heap.size ≤ gb497))
             have n7_ := aM ((by rw [hg]; exact Nat.ne_of_lt (IsS79.lt (show IsS79 w0 _ g s0_0 x1001_1 x1002_1 from zI79 HI0.out)) : g ≠ gb497))
             have n8_ := aM ((by rw [hg]; exact Nat.ne_of_gt (IsS79.lt (show IsS79 w0 _ g s0_0 x1001_1 x1002_1 from zI79 HI0.out)) : gb497 ≠ g))
             clear HO_3
             clear HI0
             clear HK
             clear HB
             have HO_3 := n0_
             have HI0 := n1_
             have HK := n2_
             have HB := n3_
             have BK497 := n4_
             have GW497 := n5_
             have GE497 := n6_
             have NB0_497 := n7_
             have NB497_0 := n8_
             clear n0_ n1_ n2_ n3_ n4_ n5_ n6_ n7_ n8_
             clear hb hbox hg
             refine hK.out _ _ ⟨HS3_, HS4_, HS5_⟩ (fun hHeld => ?_)
             clear hK K
             refine norm_ (a' := ?_) ?_ ?_
             rotate_left
             ·show Act.put _ (some 5) _ = _
              simp only [Act.put, xA, xB, xC, i64_w, i32_w]
              rfl
             exact norm_ (by first | (simp only [putAll, Act.put, xA, xB, xC]; done) | (simp only [putAll, Act.put, xA, xB, xC]; rfl)) (hJ13 (gb497) _ ⟨hHeld, (zd0 HO_3.out), (mB_ BK497.out), GW497.out, GE497.out, NB0_497.out, NB497_0.out, (by repeat (first | (with_reducible first | exact HI0.out | apply IsS79.alloc | apply IsS79.drewN | apply IsS79.drew | apply IsS79.set_1 | apply IsS79.set_2 | refine IsS79.far ?_ NB0_497.out _) | exact HI0.out)), (by repeat (first | (with_reducible first | exact HK.out | apply KeepBut.set_ | apply keep_drewN | apply keep_drew | apply keep_alloc | refine keep_far ?_ GW497.out _) | exact HK.out)), (by repeat (first | (with_reducible first | exact HB.out | apply below_alloc | apply pw_below_drewN | apply below_drew1 | refine below_set ?_ (IsS79.ge HI0.out) | refine below_set ?_ GE497.out) | exact HB.out))⟩)
           ·skip
            rintro gb497 w28 ⟨hS_, h0_, h1_, h2_, h3_, h4_, h5_, h6_, h7_, h8_⟩
            have n0_ : Aside0 (Kd.R k63 63 w28 w.heap.size (fun k_ => k_ ≠ gb497) (.slice (some ad486) x3_1.length co26) x3_1) := ⟨h0_⟩
            have n1_ : Aside0 (w28.heap[gb497]? = some (.cells #[.int .i64 0, .int .i64 0, .int .i64 0] 63 (0, 0))) := ⟨h1_⟩
            have n2_ : Aside0 (w.heap.size ≤ gb497) := ⟨h2_⟩
            have n3_ : Aside0 (w0.heap.size ≤ gb497) := ⟨h3_⟩
            have n4_ : Aside0 (g ≠ gb497) := ⟨h4_⟩
            have n5_ : Aside0 (gb497 ≠ g) := ⟨h5_⟩
            have n6_ : Aside0 (IsS79 w0 w28 g s0_0 x1001_1 x1002_1) := ⟨h6_⟩
            have n7_ : Aside0 (KeepBut w w28 g none) := ⟨h7_⟩
            have n8_ : Aside0 (Below w0.heap.size w0 w28) := ⟨h8_⟩
            clear HO_3
            clear HI0
            clear HK
            clear HB
            clear h0_ h1_ h2_ h3_ h4_ h5_ h6_ h7_ h8_
            have HO_3 := n0_
            have BK497 := n1_
            have GW497 := n2_
            have GE497 := n3_
            have NB0_497 := n4_
            have NB497_0 := n5_
            have HI0 := n6_
            have HK := n7_
            have HB := n8_
            clear n0_ n1_ n2_ n3_ n4_ n5_ n6_ n7_ n8_
            have hHeld : (spec_l09Draw.d3 w28 ad486 t483 x3_1) := hS_
            refine norm_ (a' := ?_) ?_ ?_
            rotate_left
            ·simp only [putAll, Act.put, xA, xB, xC]
             rfl
            refine one_ (i := 4) (N := some 30) zA75 rfl rfl (one_of HT_.out (by kernel_rfl)) (by decide) (fun K hK => ?_)
            refine goes_ Try.func38 (by kernel_rfl) rfl #[.pointer (some ⟨g, 0, none⟩), .int .i64 (x3_1.length : Int)] (by rfl) rfl rfl zm ?_
            with_reducible refine (spec_l01Next.calls g s0_0 x1001_1 x1002_1 (x3_1.length : Int) t483 t484 t485 w0 _ ?side1 ?side2 A13.out).mono ?_
            (case side1 => repeat (first | (with_reducible first | exact HI0.out | apply IsS79.alloc | apply IsS79.drewN | apply IsS79.drew | apply IsS79.set_1 | apply IsS79.set_2 | refine IsS79.far ?_ NB0_497.out _) | exact HI0.out))
            (case side2 => repeat (first | (with_reducible first | exact HB.out | apply below_alloc | apply pw_below_drewN | apply below_drew1 | refine below_set ?_ (IsS79.ge HI0.out) | refine below_set ?_ GE497.out) | exact HB.out))
            rintro e w29 ⟨rfl, hi, hb, hk⟩
            have HS3_ := keep_cell hk (hHeld.1) (by first | (rw [add_block]; exact Kd.own_blk (IsS79.own_ne HI0.out HO_3.out (by decide))) | (show (Addr.add _ _).block ≠ _; rw [add_block]; exact Kd.own_blk (IsS79.own_ne HI0.out HO_3.out (by decide))) | exact Kd.own_blk (IsS79.own_ne HI0.out HO_3.out (by decide)))
            have HS4_ := keep_cell hk (hHeld.2.1) (by first | (rw [add_block]; exact Kd.own_blk (IsS79.own_ne HI0.out HO_3.out (by decide))) | (show (Addr.add _ _).block ≠ _; rw [add_block]; exact Kd.own_blk (IsS79.own_ne HI0.out HO_3.out (by decide))) | exact Kd.own_blk (IsS79.own_ne HI0.out HO_3.out (by decide)))
            have HS5_ := keep_cell hk (hHeld.2.2) (by first | (rw [add_block]; exact Kd.own_blk (IsS79.own_ne HI0.out HO_3.out (by decide))) | (show (Addr.add _ _).block ≠ _; rw [add_block]; exact Kd.own_blk (IsS79.own_ne HI0.out HO_3.out (by decide))) | exact Kd.own_blk (IsS79.own_ne HI0.out HO_3.out (by decide)))
            refine ⟨_, rfl, ?_⟩
            have n0_ := aM (Kd.R_mono (Kd.R_keep (IsS79.apart (show IsS79 w0 _ g s0_0 x1001_1 x1002_1 from by repeat (first | (with_reducible first | exact HI0.out | apply IsS79.alloc | apply IsS79.drewN | apply IsS79.drew | apply IsS79.set_1 | apply IsS79.set_2 | refine IsS79.far ?_ NB0_497.out _) | exact HI0.out)) (mR_ HO_3.out) (by decide)) hk (fun _ h => h.2)) (fun _ h => h.1))
            have n1_ := aM (KeepBut.blk hk (g' := gb497) (o := .cells #[.int .i64 0, .int .i64 0, .int .i64 0] 63 (0, 0)) (mB_ BK497.out) NB497_0.out (by simp))
            have n2_ := aM (KeepBut.trans (by repeat (first | (with_reducible first | exact HK.out | apply KeepBut.set_ | apply keep_drewN | apply keep_drew | apply keep_alloc | refine keep_far ?_ GW497.out _) | exact HK.out)) hk (.inl rfl))
            have n3_ := aM (hb)
            have n4_ := aM (hi)
            clear HO_3
            clear BK497
            clear HK
            clear HB
            clear HI0
            have HO_3 := n0_
            have BK497 := n1_
            have HK := n2_
            have HB := n3_
            have HI0 := n4_
            clear n0_ n1_ n2_ n3_ n4_
            (try clear hb)
            (try clear hb2)
            (try clear hk)
            (try clear hi)
            refine hK.out _ _ ⟨HS3_, HS4_, HS5_⟩ (fun hHeld => ?_)
            clear hK K
            refine norm_ (a' := ?_) ?_ ?_
            rotate_left
            ·show Act.put _ (some 30) _ = _
             simp only [Act.put, xA, xB, xC, i64_w, i32_w]
             rfl
            refine zp 5 (some 31) ?_ zA76 rfl rfl (Or.inl ⟨by rfl, ?_⟩) ?_ ?_ ?_
            rotate_left
            ·intro w'
             go_simp
             with_reducible rfl
            rotate_left
            ·simp only [Act.put, xA, xB, xC, i64_w, i32_w]
             rfl
            refine zu 6 (some 32) ?_ zA70 rfl rfl (Or.inl ⟨by rfl, ?_⟩) hHeld ?_ ?_ ?_
            rotate_left
            ·rintro w' ⟨s0, s1, s2⟩
             go_simp
             with_reducible rfl
            rotate_left
            ·simp only [Act.put, xA, xB, xC, i64_w, i32_w]
             rfl
            exact norm_ (by first | (simp only [putAll, Act.put, xA, xB, xC]; done) | (simp only [putAll, Act.put, xA, xB, xC]; rfl)) (hJ4_13 (gb497) _ ⟨hHeld, (mR_ HO_3.out), (mB_ BK497.out), GW497.out, GE497.out, NB0_497.out, NB497_0.out, (by repeat (first | (with_reducible first | exact HI0.out | apply IsS79.alloc | apply IsS79.drewN | apply IsS79.drew | apply IsS79.set_1 | apply IsS79.set_2 | refine IsS79.far ?_ NB0_497.out _) | exact HI0.out)), (by repeat (first | (with_reducible first | exact HK.out | apply KeepBut.set_ | apply keep_drewN | apply keep_drew | apply keep_alloc | refine keep_far ?_ GW497.out _) | exact HK.out)), (by repeat (first | (with_reducible first | exact HB.out | apply below_alloc | apply pw_below_drewN | apply below_drew1 | refine below_set ?_ (IsS79.ge HI0.out) | refine below_set ?_ GE497.out) | exact HB.out))⟩)
          ·skip
           rintro _ w28 ⟨hS_, h0_, h1_, h2_, h3_⟩
           have n0_ : Aside0 (Kd.R k63 63 w28 w.heap.size (fun _ => True) (.slice (some ad486) x3_1.length co26) x3_1) := ⟨h0_⟩
           have n1_ : Aside0 (IsS79 w0 w28 g s0_0 t484 t485) := ⟨h1_⟩
           have n2_ : Aside0 (KeepBut w w28 g none) := ⟨h2_⟩
           have n3_ : Aside0 (Below w0.heap.size w0 w28) := ⟨h3_⟩
           clear HO_3
           clear HI0
           clear HK
           clear HB
           clear h0_ h1_ h2_ h3_
           have HO_3 := n0_
           have HI0 := n1_
           have HK := n2_
           have HB := n3_
           clear n0_ n1_ n2_ n3_
           have hHeld : (spec_l09Draw.d3 w28 ad486 t483 x3_1) := hS_
           refine norm_ (a' := ?_) ?_ ?_
           rotate_left
           ·simp only [putAll, Act.put, xA, xB, xC]
            rfl
           refine two_ (i := 7) (j := 13) (Ni := some 33) (Nj := some 5) zA42 zA70 rfl rfl rfl rfl (two_of HT_.out (by kernel_rfl)) (by decide) (by decide) (fun K hK => ?_) (fun K hK => ?_)
           ·skip
            refine goes_ Try.func53 (by kernel_rfl) rfl #[] (by rfl) rfl rfl zm ?_
            with_reducible refine (spec_l09Steps.calls  t487 _ A16.out).mono ?_
            rintro e w29 ⟨v488, rfl, ho0, hb⟩
            have HS3_ := zk hb (hHeld.1)
            have HS4_ := zk hb (hHeld.2.1)
            have HS5_ := zk hb (hHeld.2.2)
            refine ⟨_, rfl, ?_⟩
            have n0_ := aM (Kd.R_elder' (mR_ HO_3.out) (Kd.R_base ho0) hb)
            have n1_ := aM (Kd.R_lower (Kd.R_new' ho0 (Kd.R_lt (mR_ HO_3.out))) (keep_size (w := w) (g := g) (row := none) (zK HK.out)))
            have n2_ := aM (IsS79.below (zI79 HI0.out) hb)
            have n3_ := aM (KeepBut.trans (zK HK.out) (KeepBut.of_below hb g none) (.inl rfl))
            have n4_ := aM (below_step (zs (IsS79.ge HI0.out)) hb)
            clear HO_3
            clear HI0
            clear HK
            clear HB
            have HO_3 := n0_
            have HO489 := n1_
            have HI0 := n2_
            have HK := n3_
            have HB := n4_
            clear n0_ n1_ n2_ n3_ n4_
            (try clear hb)
            (try clear hb2)
            (try clear hk)
            (try clear hi)
            (try clear ho0)
            obtain ⟨Ao30, co30, eo30⟩ := Kd.R_slice HO489.out
            (first | subst eo30 | (injection eo30 with f1_ f2_ f3_; have f4_ := f1_.symm; have f5_ := f3_.symm; clear f1_ f2_ f3_; subst f4_; subst f5_))
            have p493 : 0 ≤ (t490 : Int) := of_decide_eq_true za
            have q493 : t490 < (t487.length : Int) := of_decide_eq_true za
            obtain ⟨ad493, e493, hx493_0, hx493_1, hx493_2⟩ := at_T63 (Kd.R_reads' HO489.out).2.2 t490 p493 q493
            cases e493
            replace p493 := eq_true p493
            replace q493 := eq_true q493
            refine hK.out _ _ ⟨HS3_, HS4_, HS5_⟩ (fun hHeld => ?_)
            clear hK K
            refine more_ (S' := fun w' => (spec_l09Draw.c3 w' ad493 t490 t487 ((spec_l09Draw.d3 w' ad486 t483 x3_1)))) (fun _ h_ => ⟨h_.2.2.2.1, h_.2.2.2.2.1, h_.2.2.2.2.2⟩) ⟨hx493_0, hx493_1, hx493_2, hHeld.1, hHeld.2.1, hHeld.2.2⟩ (fun hHeld => ?_)
            refine norm_ (a' := ?_) ?_ ?_
            rotate_left
            ·show Act.put _ (some 33) _ = _
             simp only [Act.put, xA, xB, xC, i64_w, i32_w]
             rfl
            exact norm_ (by first | (simp only [putAll, Act.put, xA, xB, xC]; done) | (simp only [putAll, Act.put, xA, xB, xC]; rfl)) (hJ4_7 ((.slice (some ad493) t487.length co30), ad493) _ ⟨hHeld, (zd0 HO489.out), (zd0 HO_3.out), (zI79 HI0.out), (zK HK.out), (zs (IsS79.ge HI0.out)), ⟨_, rfl⟩⟩)
           ·skip
            refine box_step ?hg (N := 5) ?hd (cs := #[.int .i64 0, .int .i64 0, .int .i64 0]) (t := 63) ?hr ?_; (case hd => rfl); (case hg => rfl); (case hr => first | (go_simp; done) | (go_simp; rfl))
            intro gb497 hg w29 hbox hb
            have HS3_ := zk hb (hHeld.1)
            have HS4_ := zk hb (hHeld.2.1)
            have HS5_ := zk hb (hHeld.2.2)
            have n0_ := aM (Kd.R_below (Kd.R_elderB (mR_ HO_3.out) gb497 (Nat.le_of_eq hg.symm)) hb)
            have n1_ := aM (IsS79.below (zI79 HI0.out) hb)
            have n2_ := aM (KeepBut.trans (zK HK.out) (KeepBut.of_below hb g none) (.inl rfl))
            have n3_ := aM (below_step (zs (IsS79.ge HI0.out)) hb)
            have n4_ := aM (hbox)
            have n5_ := aM ((by rw [hg]; exact (keep_size (w := w) (g := g) (row := none) (zK HK.out)) : w.heap.size ≤ gb497))
            have n6_ := aM ((Nat.le_trans HW0.out (by rw [hg]; exact (keep_size (w := w) (g := g) (row := none) (zK HK.out)) : w.heap.size ≤ gb497) : w0.heap.size ≤ gb497))
            have n7_ := aM ((by rw [hg]; exact Nat.ne_of_lt (IsS79.lt (show IsS79 w0 _ g s0_0 t484 t485 from zI79 HI0.out)) : g ≠ gb497))
            have n8_ := aM ((by rw [hg]; exact Nat.ne_of_gt (IsS79.lt (show IsS79 w0 _ g s0_0 t484 t485 from zI79 HI0.out)) : gb497 ≠ g))
            clear HO_3
            clear HI0
            clear HK
            clear HB
            have HO_3 := n0_
            have HI0 := n1_
            have HK := n2_
            have HB := n3_
            have BK497 := n4_
            have GW497 := n5_
            have GE497 := n6_
            have NB0_497 := n7_
            have NB497_0 := n8_
            clear n0_ n1_ n2_ n3_ n4_ n5_ n6_ n7_ n8_
            clear hb hbox hg
            refine hK.out _ _ ⟨HS3_, HS4_, HS5_⟩ (fun hHeld => ?_)
            clear hK K
            refine norm_ (a' := ?_) ?_ ?_
            rotate_left
            ·show Act.put _ (some 5) _ = _
             simp only [Act.put, xA, xB, xC, i64_w, i32_w]
             rfl
            exact norm_ (by first | (simp only [putAll, Act.put, xA, xB, xC]; done) | (simp only [putAll, Act.put, xA, xB, xC]; rfl)) (hJ4_13 (gb497) _ ⟨hHeld, (zd0 HO_3.out), (mB_ BK497.out), GW497.out, GE497.out, NB0_497.out, NB497_0.out, (by repeat (first | (with_reducible first | exact HI0.out | apply IsS79.alloc | apply IsS79.drewN | apply IsS79.drew | apply IsS79.set_1 | apply IsS79.set_2 | refine IsS79.far ?_ NB0_497.out _) | exact HI0.out)), (by repeat (first | (with_reducible first | exact HK.out | apply KeepBut.set_ | apply keep_drewN | apply keep_drew | apply keep_alloc | refine keep_far ?_ GW497.out _) | exact HK.out)), (by repeat (first | (with_reducible first | exact HB.out | apply below_alloc | apply pw_below_drewN | apply below_drew1 | refine below_set ?_ (IsS79.ge HI0.out) | refine below_set ?_ GE497.out) | exact HB.out))⟩)
         ·skip
          rintro gb497 w29 ⟨hS_, h0_, h1_, h2_, h3_, h4_, h5_, h6_, h7_, h8_⟩
          have n0_ : Aside0 (Kd.R k63 63 w29 w.heap.size (fun k_ => k_ ≠ gb497) (.slice (some ad486) x3_1.length co26) x3_1) := ⟨h0_⟩
          have n1_ : Aside0 (w29.heap[gb497]? = some (.cells #[.int .i64 0, .int .i64 0, .int .i64 0] 63 (0, 0))) := ⟨h1_⟩
          have n2_ : Aside0 (w.heap.size ≤ gb497) := ⟨h2_⟩
          have n3_ : Aside0 (w0.heap.size ≤ gb497) := ⟨h3_⟩
          have n4_ : Aside0 (g ≠ gb497) := ⟨h4_⟩
          have n5_ : Aside0 (gb497 ≠ g) := ⟨h5_⟩
          have n6_ : Aside0 (IsS79 w0 w29 g s0_0 t484 t485) := ⟨h6_⟩
          have n7_ : Aside0 (KeepBut w w29 g none) := ⟨h7_⟩
          have n8_ : Aside0 (Below w0.heap.size w0 w29) := ⟨h8_⟩
          clear HO_3
          clear HI0
          clear HK
          clear HB
          clear h0_ h1_ h2_ h3_ h4_ h5_ h6_ h7_ h8_
          have HO_3 := n0_
          have BK497 := n1_
          have GW497 := n2_
          have GE497 := n3_
          have NB0_497 := n4_
          have NB497_0 := n5_
          have HI0 := n6_
          have HK := n7_
          have HB := n8_
          clear n0_ n1_ n2_ n3_ n4_ n5_ n6_ n7_ n8_
          have hHeld : (spec_l09Draw.d3 w29 ad486 t483 x3_1) := hS_
          refine norm_ (a' := ?_) ?_ ?_
          rotate_left
          ·simp only [putAll, Act.put, xA, xB, xC]
           rfl
          refine one_ (i := 7) (N := some 33) zA69 rfl rfl (one_of HT_.out (by kernel_rfl)) (by decide) (fun K hK => ?_)
          refine goes_ Try.func53 (by kernel_rfl) rfl #[] (by rfl) rfl rfl zm ?_
          with_reducible refine (spec_l09Steps.calls  t487 _ A16.out).mono ?_
          rintro e w30 ⟨v488, rfl, ho0, hb⟩
          have HS3_ := zk hb (hHeld.1)
          have HS4_ := zk hb (hHeld.2.1)
          have HS5_ := zk hb (hHeld.2.2)
          refine ⟨_, rfl, ?_⟩
          have n0_ := aM (Kd.R_elder' (mR_ HO_3.out) (Kd.R_base ho0) hb)
          have n1_ := aM (Kd.R_lower (Kd.R_newB (Kd.R_new' ho0 (Kd.R_lt (mR_ HO_3.out))) (g := gb497) (o := .cells #[.int .i64 0, .int .i64 0, .int .i64 0] 63 (0, 0)) (mB_ BK497.out)) (keep_size (w := w) (g := g) (row := none) (by repeat (first | (with_reducible first | exact HK.out | apply KeepBut.set_ | apply keep_drewN | apply keep_drew | apply keep_alloc | refine keep_far ?_ GW497.out _) | exact HK.out))))
          have n2_ := aM (IsS79.below (by repeat (first | (with_reducible first | exact HI0.out | apply IsS79.alloc | apply IsS79.drewN | apply IsS79.drew | apply IsS79.set_1 | apply IsS79.set_2 | refine IsS79.far ?_ NB0_497.out _) | exact HI0.out)) hb)
          have n3_ := aM (blk_below (g := gb497) (o := .cells #[.int .i64 0, .int .i64 0, .int .i64 0] 63 (0, 0)) (mB_ BK497.out) hb)
          have n4_ := aM (KeepBut.trans (by repeat (first | (with_reducible first | exact HK.out | apply KeepBut.set_ | apply keep_drewN | apply keep_drew | apply keep_alloc | refine keep_far ?_ GW497.out _) | exact HK.out)) (KeepBut.of_below hb g none) (.inl rfl))
          have n5_ := aM (below_step (by repeat (first | (with_reducible first | exact HB.out | apply below_alloc | apply pw_below_drewN | apply below_drew1 | refine below_set ?_ (IsS79.ge HI0.out) | refine below_set ?_ GE497.out) | exact HB.out)) hb)
          clear HO_3
          clear HI0
          clear BK497
          clear HK
          clear HB
          have HO_3 := n0_
          have HO489 := n1_
          have HI0 := n2_
          have BK497 := n3_
          have HK := n4_
          have HB := n5_
          clear n0_ n1_ n2_ n3_ n4_ n5_
          (try clear hb)
          (try clear hb2)
          (try clear hk)
          (try clear hi)
          (try clear ho0)
          obtain ⟨Ao31, co31, eo31⟩ := Kd.R_slice HO489.out
          (first | subst eo31 | (injection eo31 with f1_ f2_ f3_; have f4_ := f1_.symm; have f5_ := f3_.symm; clear f1_ f2_ f3_; subst f4_; subst f5_))
          have p493 : 0 ≤ (t490 : Int) := of_decide_eq_true za
          have q493 : t490 < (t487.length : Int) := of_decide_eq_true za
          obtain ⟨ad493, e493, hx493_0, hx493_1, hx493_2⟩ := at_T63 (Kd.R_reads' HO489.out).2.2 t490 p493 q493
          cases e493
          replace p493 := eq_true p493
          replace q493 := eq_true q493
          refine hK.out _ _ ⟨HS3_, HS4_, HS5_⟩ (fun hHeld => ?_)
          clear hK K
          refine more_ (S' := fun w' => (spec_l09Draw.c3 w' ad493 t490 t487 ((spec_l09Draw.d3 w' ad486 t483 x3_1)))) (fun _ h_ => ⟨h_.2.2.2.1, h_.2.2.2.2.1, h_.2.2.2.2.2⟩) ⟨hx493_0, hx493_1, hx493_2, hHeld.1, hHeld.2.1, hHeld.2.2⟩ (fun hHeld => ?_)
          refine norm_ (a' := ?_) ?_ ?_
          rotate_left
          ·show Act.put _ (some 33) _ = _
           simp only [Act.put, xA, xB, xC, i64_w, i32_w]
           rfl
          exact norm_ (by first | (simp only [putAll, Act.put, xA, xB, xC]; done) | (simp only [putAll, Act.put, xA, xB, xC]; rfl)) (hJ4_7_13 ((.slice (some ad493) t487.length co31, gb497), ad493) _ ⟨hHeld, (zd4 HO489.out), (zd2 HO_3.out), (mB_ BK497.out), GW497.out, GE497.out, NB0_497.out, NB497_0.out, (by repeat (first | (with_reducible first | exact HI0.out | apply IsS79.alloc | apply IsS79.drewN | apply IsS79.drew | apply IsS79.set_1 | apply IsS79.set_2 | refine IsS79.far ?_ NB0_497.out _) | exact HI0.out)), (by repeat (first | (with_reducible first | exact HK.out | apply KeepBut.set_ | apply keep_drewN | apply keep_drew | apply keep_alloc | refine keep_far ?_ GW497.out _) | exact HK.out)), (by repeat (first | (with_reducible first | exact HB.out | apply below_alloc | apply pw_below_drewN | apply below_drew1 | refine below_set ?_ (IsS79.ge HI0.out) | refine below_set ?_ GE497.out) | exact HB.out)), ⟨_, rfl⟩⟩)
        ·skip
         rintro ⟨v488, ad493⟩ w30 ⟨hS_, h0_, h1_, h2_, h3_, h4_, ⟨c9_, hE9_⟩⟩
         replace hE9_ : v488 = Value.slice (some ad493) t487.length c9_ := hE9_
         subst hE9_
         have p493 : 0 ≤ (t490 : Int) := of_decide_eq_true za
         replace p493 := eq_true p493
         have q493 : t490 < (t487.length : Int) := of_decide_eq_true za
         replace q493 := eq_true q493
         refine more_ (S' := fun w' => (spec_l09Draw.c3 w' ad493 t490 t487 ((spec_l09Draw.d3 w' ad486 t483 x3_1)))) (fun _ h_ => h_) hS_ (fun hS_ => ?_)
         have n0_ : Aside0 (Kd.R k63 63 w30 w.heap.size (fun k_ => some k_ ≠ (.slice (some ad486) x3_1.length co26 : Value).ownBlock) (.slice (some ad493) t487.length c9_) t487) := ⟨h0_⟩
         have n1_ : Aside0 (Kd.R k63 63 w30 w.heap.size (fun k_ => some k_ ≠ ((.slice (some ad493) t487.length c9_) : Value).ownBlock) (.slice (some ad486) x3_1.length co26) x3_1) := ⟨h1_⟩
         have n2_ : Aside0 (IsS79 w0 w30 g s0_0 t484 t485) := ⟨h2_⟩
         have n3_ : Aside0 (KeepBut w w30 g none) := ⟨h3_⟩
         have n4_ : Aside0 (Below w0.heap.size w0 w30) := ⟨h4_⟩
         clear HO_3
         clear HI0
         clear HK
         clear HB
         clear h0_ h1_ h2_ h3_ h4_
         have HO489 := n0_
         have HO_3 := n1_
         have HI0 := n2_
         have HK := n3_
         have HB := n4_
         clear n0_ n1_ n2_ n3_ n4_
         have hHeld : (spec_l09Draw.c3 w30 ad493 t490 t487 ((spec_l09Draw.d3 w30 ad486 t483 x3_1))) := hS_
         refine norm_ (a' := ?_) ?_ ?_
         rotate_left
         ·simp only [putAll, Act.put, xA, xB, xC]
          rfl
         refine two_ (i := 9) (j := 13) (Ni := some 35) (Nj := some 5) zA43 zA69 rfl rfl rfl rfl (two_of HT_.out (by kernel_rfl)) (by decide) (by decide) (fun K hK => ?_) (fun K hK => ?_)
         ·skip
          refine goes_ Try.func38 (by kernel_rfl) rfl #[.pointer (some ⟨g, 0, none⟩), .int .i64 6] (by rfl) rfl rfl zm ?_
          with_reducible refine (spec_l01Next.calls g s0_0 t484 t485 6 t490 t491 t492 w0 _ ?side1 ?side2 A17.out).mono ?_
          (case side1 => exact zI79 HI0.out)
          (case side2 => exact zs (IsS79.ge HI0.out))
          rintro e w31 ⟨rfl, hi, hb, hk⟩
          have HS0_ := keep_cell hk (hHeld.1) (by first | (rw [add_block]; exact Kd.own_blk (IsS79.own_ne HI0.out HO489.out (by decide))) | (show (Addr.add _ _).block ≠ _; rw [add_block]; exact Kd.own_blk (IsS79.own_ne HI0.out HO489.out (by decide))) | exact Kd.own_blk (IsS79.own_ne HI0.out HO489.out (by decide)))
          have HS1_ := keep_cell hk (hHeld.2.1) (by first | (rw [add_block]; exact Kd.own_blk (IsS79.own_ne HI0.out HO489.out (by decide))) | (show (Addr.add _ _).block ≠ _; rw [add_block]; exact Kd.own_blk (IsS79.own_ne HI0.out HO489.out (by decide))) | exact Kd.own_blk (IsS79.own_ne HI0.out HO489.out (by decide)))
          have HS2_ := keep_cell hk (hHeld.2.2.1) (by first | (rw [add_block]; exact Kd.own_blk (IsS79.own_ne HI0.out HO489.out (by decide))) | (show (Addr.add _ _).block ≠ _; rw [add_block]; exact Kd.own_blk (IsS79.own_ne HI0.out HO489.out (by decide))) | exact Kd.own_blk (IsS79.own_ne HI0.out HO489.out (by decide)))
          have HS3_ := keep_cell hk (hHeld.2.2.2.1) (by first | (rw [add_block]; exact Kd.own_blk (IsS79.own_ne HI0.out HO_3.out (by decide))) | (show (Addr.add _ _).block ≠ _; rw [add_block]; exact Kd.own_blk (IsS79.own_ne HI0.out HO_3.out (by decide))) | exact Kd.own_blk (IsS79.own_ne HI0.out HO_3.out (by decide)))
          have HS4_ := keep_cell hk (hHeld.2.2.2.2.1) (by first | (rw [add_block]; exact Kd.own_blk (IsS79.own_ne HI0.out HO_3.out (by decide))) | (show (Addr.add _ _).block ≠ _; rw [add_block]; exact Kd.own_blk (IsS79.own_ne HI0.out HO_3.out (by decide))) | exact Kd.own_blk (IsS79.own_ne HI0.out HO_3.out (by decide)))
          have HS5_ := keep_cell hk (hHeld.2.2.2.2.2) (by first | (rw [add_block]; exact Kd.own_blk (IsS79.own_ne HI0.out HO_3.out (by decide))) | (show (Addr.add _ _).block ≠ _; rw [add_block]; exact Kd.own_blk (IsS79.own_ne HI0.out HO_3.out (by decide))) | exact Kd.own_blk (IsS79.own_ne HI0.out HO_3.out (by decide)))
          refine ⟨_, rfl, ?_⟩
          have n0_ := aM (Kd.R_mono (Kd.R_keep (IsS79.apart (show IsS79 w0 _ g s0_0 t484 t485 from zI79 HI0.out) (mR_ HO_3.out) (by decide)) hk (fun _ h => h.2)) (fun _ h => h.1))
          have n1_ := aM (Kd.R_mono (Kd.R_keep (IsS79.apart (show IsS79 w0 _ g s0_0 t484 t485 from zI79 HI0.out) (mR_ HO489.out) (by decide)) hk (fun _ h => h.2)) (fun _ h => h.1))
          have n2_ := aM (KeepBut.trans (zK HK.out) hk (.inl rfl))
          have n3_ := aM (hb)
          have n4_ := aM (hi)
          clear HO_3
          clear HO489
          clear HK
          clear HB
          clear HI0
          have HO_3 := n0_
          have HO489 := n1_
          have HK := n2_
          have HB := n3_
          have HI0 := n4_
          clear n0_ n1_ n2_ n3_ n4_
          (try clear hb)
          (try clear hb2)
          (try clear hk)
          (try clear hi)
          refine hK.out _ _ ⟨HS0_, HS1_, HS2_, HS3_, HS4_, HS5_⟩ (fun hHeld => ?_)
          clear hK K
          refine norm_ (a' := ?_) ?_ ?_
          rotate_left
          ·show Act.put _ (some 35) _ = _
           simp only [Act.put, xA, xB, xC, i64_w, i32_w]
           rfl
          refine zp 10 (some 36) ?_ zA44 rfl rfl (Or.inl ⟨by rfl, ?_⟩) ?_ ?_ ?_
          rotate_left
          ·intro w'
           go_simp
           with_reducible rfl
          rotate_left
          ·simp only [Act.put, xA, xB, xC, i64_w, i32_w]
           rfl
          refine zu 11 (some 37) ?_ zA45 rfl rfl (Or.inl ⟨by rfl, ?_⟩) hHeld ?_ ?_ ?_
          rotate_left
          ·rintro w' ⟨s0, s1, s2, s3, s4, s5⟩
           go_simp
           with_reducible rfl
          rotate_left
          ·simp only [Act.put, xA, xB, xC, i64_w, i32_w]
           rfl
          exact norm_ (by first | (simp only [putAll, Act.put, xA, xB, xC]; done) | (simp only [putAll, Act.put, xA, xB, xC]; rfl)) (hJ4_7_9 (((.slice (some ad493) t487.length c9_)), ad493) _ ⟨hHeld, (mR_ HO489.out), (mR_ HO_3.out), (zI79 HI0.out), (zK HK.out), (zs (IsS79.ge HI0.out)), ⟨_, rfl⟩⟩)
         ·skip
          refine box_step ?hg (N := 5) ?hd (cs := #[.int .i64 0, .int .i64 0, .int .i64 0]) (t := 63) ?hr ?_; (case hd => rfl); (case hg => rfl); (case hr => first | (go_simp; done) | (go_simp; rfl))
          intro gb497 hg w31 hbox hb
          have HS0_ := zk hb (hHeld.1)
          have HS1_ := zk hb (hHeld.2.1)
          have HS2_ := zk hb (hHeld.2.2.1)
          have HS3_ := zk hb (hHeld.2.2.2.1)
          have HS4_ := zk hb (hHeld.2.2.2.2.1)
          have HS5_ := zk hb (hHeld.2.2.2.2.2)
          have n0_ := aM (Kd.R_below (Kd.R_elderB (mR_ HO_3.out) gb497 (Nat.le_of_eq hg.symm)) hb)
          have n1_ := aM (Kd.R_below (Kd.R_elderB (mR_ HO489.out) gb497 (Nat.le_of_eq hg.symm)) hb)
          have n2_ := aM (IsS79.below (zI79 HI0.out) hb)
          have n3_ := aM (KeepBut.trans (zK HK.out) (KeepBut.of_below hb g none) (.inl rfl))
          have n4_ := aM (below_step (zs (IsS79.ge HI0.out)) hb)
          have n5_ := aM (hbox)
          have n6_ := aM ((by rw [hg]; exact (keep_size (w := w) (g := g) (row := none) (zK HK.out)) : w.heap.size ≤ gb497))
          have n7_ := aM ((Nat.le_trans HW0.out (by rw [hg]; exact (keep_size (w := w) (g := g) (row := none) (zK HK.out)) : w.heap.size ≤ gb497) : w0.heap.size ≤ gb497))
          have n8_ := aM ((by rw [hg]; exact Nat.ne_of_lt (IsS79.lt (show IsS79 w0 _ g s0_0 t484 t485 from zI79 HI0.out)) : g ≠ gb497))
          have n9_ := aM ((by rw [hg]; exact Nat.ne_of_gt (IsS79.lt (show IsS79 w0 _ g s0_0 t484 t485 from zI79 HI0.out)) : gb497 ≠ g))
          clear HO_3
          clear HO489
          clear HI0
          clear HK
          clear HB
          have HO_3 := n0_
          have HO489 := n1_
          have HI0 := n2_
          have HK := n3_
          have HB := n4_
          have BK497 := n5_
          have GW497 := n6_
          have GE497 := n7_
          have NB0_497 := n8_
          have NB497_0 := n9_
          clear n0_ n1_ n2_ n3_ n4_ n5_ n6_ n7_ n8_ n9_
          clear hb hbox hg
          refine hK.out _ _ ⟨HS0_, HS1_, HS2_, HS3_, HS4_, HS5_⟩ (fun hHeld => ?_)
          clear hK K
          refine norm_ (a' := ?_) ?_ ?_
          rotate_left
          ·show Act.put _ (some 5) _ = _
           simp only [Act.put, xA, xB, xC, i64_w, i32_w]
           rfl
          exact norm_ (by first | (simp only [putAll, Act.put, xA, xB, xC]; done) | (simp only [putAll, Act.put, xA, xB, xC]; rfl)) (hJ4_7_13 (((.slice (some ad493) t487.length c9_), gb497), ad493) _ ⟨hHeld, (mR_ HO489.out), (mR_ HO_3.out), (mB_ BK497.out), GW497.out, GE497.out, NB0_497.out, NB497_0.out, (by repeat (first | (with_reducible first | exact HI0.out | apply IsS79.alloc | apply IsS79.drewN | apply IsS79.drew | apply IsS79.set_1 | apply IsS79.set_2 | refine IsS79.far ?_ NB0_497.out _) | exact HI0.out)), (by repeat (first | (with_reducible first | exact HK.out | apply KeepBut.set_ | apply keep_drewN | apply keep_drew | apply keep_alloc | refine keep_far ?_ GW497.out _) | exact HK.out)), (by repeat (first | (with_reducible first | exact HB.out | apply below_alloc | apply pw_below_drewN | apply below_drew1 | refine below_set ?_ (IsS79.ge HI0.out) | refine below_set ?_ GE497.out) | exact HB.out)), ⟨_, rfl⟩⟩)
       ·skip
        rintro ⟨⟨v488, gb497⟩, ad493⟩ w31 ⟨hS_, h0_, h1_, h2_, h3_, h4_, h5_, h6_, h7_, h8_, h9_, ⟨c9_, hE9_⟩⟩
        replace hE9_ : v488 = Value.slice (some ad493) t487.length c9_ := hE9_
        subst hE9_
        have p493 : 0 ≤ (t490 : Int) := of_decide_eq_true za
        replace p493 := eq_true p493
        have q493 : t490 < (t487.length : Int) := of_decide_eq_true za
        replace q493 := eq_true q493
        refine more_ (S' := fun w' => (spec_l09Draw.c3 w' ad493 t490 t487 ((spec_l09Draw.d3 w' ad486 t483 x3_1)))) (fun _ h_ => h_) hS_ (fun hS_ => ?_)
        have n0_ : Aside0 (Kd.R k63 63 w31 w.heap.size (fun k_ => some k_ ≠ (.slice (some ad486) x3_1.length co26 : Value).ownBlock ∧ k_ ≠ gb497) (.slice (some ad493) t487.length c9_) t487) := ⟨h0_⟩
        have n1_ : Aside0 (Kd.R k63 63 w31 w.heap.size (fun k_ => some k_ ≠ ((.slice (some ad493) t487.length c9_) : Value).ownBlock ∧ k_ ≠ gb497) (.slice (some ad486) x3_1.length co26) x3_1) := ⟨h1_⟩
        have n2_ : Aside0 (w31.heap[gb497]? = some (.cells #[.int .i64 0, .int .i64 0, .int .i64 0] 63 (0, 0))) := ⟨h2_⟩
        have n3_ : Aside0 (w.heap.size ≤ gb497) := ⟨h3_⟩
        have n4_ : Aside0 (w0.heap.size ≤ gb497) := ⟨h4_⟩
        have n5_ : Aside0 (g ≠ gb497) := ⟨h5_⟩
        have n6_ : Aside0 (gb497 ≠ g) := ⟨h6_⟩
        have n7_ : Aside0 (IsS79 w0 w31 g s0_0 t484 t485) := ⟨h7_⟩
        have n8_ : Aside0 (KeepBut w w31 g none) := ⟨h8_⟩
        have n9_ : Aside0 (Below w0.heap.size w0 w31) := ⟨h9_⟩
        clear HO_3
        clear HI0
        clear HK
        clear HB
        clear h0_ h1_ h2_ h3_ h4_ h5_ h6_ h7_ h8_ h9_
        have HO489 := n0_
        have HO_3 := n1_
        have BK497 := n2_
        have GW497 := n3_
        have GE497 := n4_
        have NB0_497 := n5_
        have NB497_0 := n6_
        have HI0 := n7_
        have HK := n8_
        have HB := n9_
        clear n0_ n1_ n2_ n3_ n4_ n5_ n6_ n7_ n8_ n9_
        have hHeld : (spec_l09Draw.c3 w31 ad493 t490 t487 ((spec_l09Draw.d3 w31 ad486 t483 x3_1))) := hS_
        refine norm_ (a' := ?_) ?_ ?_
        rotate_left
        ·simp only [putAll, Act.put, xA, xB, xC]
         rfl
        refine one_ (i := 9) (N := some 35) zA77 rfl rfl (one_of HT_.out (by kernel_rfl)) (by decide) (fun K hK => ?_)
        refine goes_ Try.func38 (by kernel_rfl) rfl #[.pointer (some ⟨g, 0, none⟩), .int .i64 6] (by rfl) rfl rfl zm ?_
        with_reducible refine (spec_l01Next.calls g s0_0 t484 t485 6 t490 t491 t492 w0 _ ?side1 ?side2 A17.out).mono ?_
        (case side1 => repeat (first | (with_reducible first | exact HI0.out | apply IsS79.alloc | apply IsS79.drewN | apply IsS79.drew | apply IsS79.set_1 | apply IsS79.set_2 | refine IsS79.far ?_ NB0_497.out _) | exact HI0.out))
        (case side2 => repeat (first | (with_reducible first | exact HB.out | apply below_alloc | apply pw_below_drewN | apply below_drew1 | refine below_set ?_ (IsS79.ge HI0.out) | refine below_set ?_ GE497.out) | exact HB.out))
        rintro e w32 ⟨rfl, hi, hb, hk⟩
        have HS0_ := keep_cell hk (hHeld.1) (by first | (rw [add_block]; exact Kd.own_blk (IsS79.own_ne HI0.out HO489.out (by decide))) | (show (Addr.add _ _).block ≠ _; rw [add_block]; exact Kd.own_blk (IsS79.own_ne HI0.out HO489.out (by decide))) | exact Kd.own_blk (IsS79.own_ne HI0.out HO489.out (by decide)))
        have HS1_ := keep_cell hk (hHeld.2.1) (by first | (rw [add_block]; exact Kd.own_blk (IsS79.own_ne HI0.out HO489.out (by decide))) | (show (Addr.add _ _).block ≠ _; rw [add_block]; exact Kd.own_blk (IsS79.own_ne HI0.out HO489.out (by decide))) | exact Kd.own_blk (IsS79.own_ne HI0.out HO489.out (by decide)))
        have HS2_ := keep_cell hk (hHeld.2.2.1) (by first | (rw [add_block]; exact Kd.own_blk (IsS79.own_ne HI0.out HO489.out (by decide))) | (show (Addr.add _ _).block ≠ _; rw [add_block]; exact Kd.own_blk (IsS79.own_ne HI0.out HO489.out (by decide))) | exact Kd.own_blk (IsS79.own_ne HI0.out HO489.out (by decide)))
        have HS3_ := keep_cell hk (hHeld.2.2.2.1) (by first | (rw [add_block]; exact Kd.own_blk (IsS79.own_ne HI0.out HO_3.out (by decide))) | (show (Addr.add _ _).block ≠ _; rw [add_block]; exact Kd.own_blk (IsS79.own_ne HI0.out HO_3.out (by decide))) | exact Kd.own_blk (IsS79.own_ne HI0.out HO_3.out (by decide)))
        have HS4_ := keep_cell hk (hHeld.2.2.2.2.1) (by first | (rw [add_block]; exact Kd.own_blk (IsS79.own_ne HI0.out HO_3.out (by decide))) | (show (Addr.add _ _).block ≠ _; rw [add_block]; exact Kd.own_blk (IsS79.own_ne HI0.out HO_3.out (by decide))) | exact Kd.own_blk (IsS79.own_ne HI0.out HO_3.out (by decide)))
        have HS5_ := keep_cell hk (hHeld.2.2.2.2.2) (by first | (rw [add_block]; exact Kd.own_blk (IsS79.own_ne HI0.out HO_3.out (by decide))) | (show (Addr.add _ _).block ≠ _; rw [add_block]; exact Kd.own_blk (IsS79.own_ne HI0.out HO_3.out (by decide))) | exact Kd.own_blk (IsS79.own_ne HI0.out HO_3.out (by decide)))
        refine ⟨_, rfl, ?_⟩
        have n0_ := aM (Kd.R_mono (Kd.R_keep (IsS79.apart (show IsS79 w0 _ g s0_0 t484 t485 from by repeat (first | (with_reducible first | exact HI0.out | apply IsS79.alloc | apply IsS79.drewN | apply IsS79.drew | apply IsS79.set_1 | apply IsS79.set_2 | refine IsS79.far ?_ NB0_497.out _) | exact HI0.out)) (mR_ HO_3.out) (by decide)) hk (fun _ h => h.2)) (fun _ h => h.1))
        have n1_ := aM (Kd.R_mono (Kd.R_keep (IsS79.apart (show IsS79 w0 _ g s0_0 t484 t485 from by repeat (first | (with_reducible first | exact HI0.out | apply IsS79.alloc | apply IsS79.drewN | apply IsS79.drew | apply IsS79.set_1 | apply IsS79.set_2 | refine IsS79.far ?_ NB0_497.out _) | exact HI0.out)) (mR_ HO489.out) (by decide)) hk (fun _ h => h.2)) (fun _ h => h.1))
        have n2_ := aM (KeepBut.blk hk (g' := gb497) (o := .cells #[.int .i64 0, .int .i64 0, .int .i64 0] 63 (0, 0)) (mB_ BK497.out) NB497_0.out (by simp))
        have n3_ := aM (KeepBut.trans (by repeat (first | (with_reducible first | exact HK.out | apply KeepBut.set_ | apply keep_drewN | apply keep_drew | apply keep_alloc | refine keep_far ?_ GW497.out _) | exact HK.out)) hk (.inl rfl))
        have n4_ := aM (hb)
        have n5_ := aM (hi)
        clear HO_3
        clear HO489
        clear BK497
        clear HK
        clear HB
        clear HI0
        have HO_3 := n0_
        have HO489 := n1_
        have BK497 := n2_
        have HK := n3_
        have HB := n4_
        have HI0 := n5_
        clear n0_ n1_ n2_ n3_ n4_ n5_
        (try clear hb)
        (try clear hb2)
        (try clear hk)
        (try clear hi)
        refine hK.out _ _ ⟨HS0_, HS1_, HS2_, HS3_, HS4_, HS5_⟩ (fun hHeld => ?_)
        clear hK K
        refine norm_ (a' := ?_) ?_ ?_
        rotate_left
        ·show Act.put _ (some 35) _ = _
         simp only [Act.put, xA, xB, xC, i64_w, i32_w]
         rfl
        refine zp 10 (some 36) ?_ zA78 rfl rfl (Or.inl ⟨by rfl, ?_⟩) ?_ ?_ ?_
        rotate_left
        ·intro w'
         go_simp
         with_reducible rfl
        rotate_left
        ·simp only [Act.put, xA, xB, xC, i64_w, i32_w]
         rfl
        refine zu 11 (some 37) ?_ zA68 rfl rfl (Or.inl ⟨by rfl, ?_⟩) hHeld ?_ ?_ ?_
        rotate_left
        ·rintro w' ⟨s0, s1, s2, s3, s4, s5⟩
         go_simp
         with_reducible rfl
        rotate_left
        ·simp only [Act.put, xA, xB, xC, i64_w, i32_w]
         rfl
        exact norm_ (by first | (simp only [putAll, Act.put, xA, xB, xC]; done) | (simp only [putAll, Act.put, xA, xB, xC]; rfl)) (hJ4_7_9_13 (((.slice (some ad493) t487.length c9_), gb497), ad493) _ ⟨hHeld, (mR_ HO489.out), (mR_ HO_3.out), (mB_ BK497.out), GW497.out, GE497.out, NB0_497.out, NB497_0.out, (by repeat (first | (with_reducible first | exact HI0.out | apply IsS79.alloc | apply IsS79.drewN | apply IsS79.drew | apply IsS79.set_1 | apply IsS79.set_2 | refine IsS79.far ?_ NB0_497.out _) | exact HI0.out)), (by repeat (first | (with_reducible first | exact HK.out | apply KeepBut.set_ | apply keep_drewN | apply keep_drew | apply keep_alloc | refine keep_far ?_ GW497.out _) | exact HK.out)), (by repeat (first | (with_reducible first | exact HB.out | apply below_alloc | apply pw_below_drewN | apply below_drew1 | refine below_set ?_ (IsS79.ge HI0.out) | refine below_set ?_ GE497.out) | exact HB.out)), ⟨_, rfl⟩⟩)
      ·skip
       rintro ⟨v488, ad493⟩ w31 ⟨hS_, h0_, h1_, h2_, h3_, h4_, ⟨c9_, hE9_⟩⟩
       replace hE9_ : v488 = Value.slice (some ad493) t487.length c9_ := hE9_
       subst hE9_
       have p493 : 0 ≤ (t490 : Int) := of_decide_eq_true za
       replace p493 := eq_true p493
       have q493 : t490 < (t487.length : Int) := of_decide_eq_true za
       replace q493 := eq_true q493
       refine more_ (S' := fun w' => (spec_l09Draw.c3 w' ad493 t490 t487 ((spec_l09Draw.d3 w' ad486 t483 x3_1)))) (fun _ h_ => h_) hS_ (fun hS_ => ?_)
       have n0_ : Aside0 (Kd.R k63 63 w31 w.heap.size (fun k_ => some k_ ≠ (.slice (some ad486) x3_1.length co26 : Value).ownBlock) (.slice (some ad493) t487.length c9_) t487) := ⟨h0_⟩
       have n1_ : Aside0 (Kd.R k63 63 w31 w.heap.size (fun k_ => some k_ ≠ ((.slice (some ad493) t487.length c9_) : Value).ownBlock) (.slice (some ad486) x3_1.length co26) x3_1) := ⟨h1_⟩
       have n2_ : Aside0 (IsS79 w0 w31 g s0_0 t491 t492) := ⟨h2_⟩
       have n3_ : Aside0 (KeepBut w w31 g none) := ⟨h3_⟩
       have n4_ : Aside0 (Below w0.heap.size w0 w31) := ⟨h4_⟩
       clear HO_3
       clear HI0
       clear HK
       clear HB
       clear h0_ h1_ h2_ h3_ h4_
       have HO489 := n0_
       have HO_3 := n1_
       have HI0 := n2_
       have HK := n3_
       have HB := n4_
       clear n0_ n1_ n2_ n3_ n4_
       have hHeld : (spec_l09Draw.c3 w31 ad493 t490 t487 ((spec_l09Draw.d3 w31 ad486 t483 x3_1))) := hS_
       refine norm_ (a' := ?_) ?_ ?_
       rotate_left
       ·simp only [putAll, Act.put, xA, xB, xC]
        rfl
       refine two_ (i := 12) (j := 13) (Ni := some 38) (Nj := some 5) zA46 zA68 rfl rfl rfl rfl (two_of HT_.out (by kernel_rfl)) (by decide) (by decide) (fun K hK => ?_) (fun K hK => ?_)
       ·skip
        refine goes_ Try.func52 (by kernel_rfl) rfl #[spec_l09Draw.a3 x3_1 t483, spec_l09Draw.a3 t487 t490] (by rfl) rfl rfl zm ?_
        with_reducible refine (spec_l09Add.calls ((rd_T63 x3_1 t483).f0) ((rd_T63 x3_1 t483).f1) ((rd_T63 x3_1 t483).f2) ((rd_T63 t487 t490).f0) ((rd_T63 t487 t490).f1) ((rd_T63 t487 t490).f2) t494 t495 t496 _ A20.out).mono ?_
        rintro e w32 ⟨rfl, hb⟩
        have HS0_ := zk hb (hHeld.1)
        have HS1_ := zk hb (hHeld.2.1)
        have HS2_ := zk hb (hHeld.2.2.1)
        have HS3_ := zk hb (hHeld.2.2.2.1)
        have HS4_ := zk hb (hHeld.2.2.2.2.1)
        have HS5_ := zk hb (hHeld.2.2.2.2.2)
        refine ⟨_, rfl, ?_⟩
        have n0_ := aM (Kd.R_below (mR_ HO_3.out) hb)
        have n1_ := aM (Kd.R_below (mR_ HO489.out) hb)
        have n2_ := aM (IsS79.below (zI79 HI0.out) hb)
        have n3_ := aM (KeepBut.trans (zK HK.out) (KeepBut.of_below hb g none) (.inl rfl))
        have n4_ := aM (below_step (zs (IsS79.ge HI0.out)) hb)
        clear HO_3
        clear HO489
        clear HI0
        clear HK
        clear HB
        have HO_3 := n0_
        have HO489 := n1_
        have HI0 := n2_
        have HK := n3_
        have HB := n4_
        clear n0_ n1_ n2_ n3_ n4_
        (try clear hb)
        (try clear hb2)
        (try clear hk)
        (try clear hi)
        refine hK.out _ _ ⟨HS0_, HS1_, HS2_, HS3_, HS4_, HS5_⟩ (fun hHeld => ?_)
        clear hK K
        refine norm_ (a' := ?_) ?_ ?_
        rotate_left
        ·show Act.put _ (some 38) _ = _
         simp only [Act.put, xA, xB, xC, i64_w, i32_w]
         rfl
        exact norm_ (by first | (simp only [putAll, Act.put, xA, xB, xC]; done) | (simp only [putAll, Act.put, xA, xB, xC]; rfl)) (hJ4_7_9_12 (((.slice (some ad493) t487.length c9_)), ad493) _ ⟨hHeld, (mR_ HO489.out), (mR_ HO_3.out), (zI79 HI0.out), (zK HK.out), (zs (IsS79.ge HI0.out)), ⟨_, rfl⟩⟩)
       ·skip
        refine box_step ?hg (N := 5) ?hd (cs := #[.int .i64 0, .int .i64 0, .int .i64 0]) (t := 63) ?hr ?_; (case hd => rfl); (case hg => rfl); (case hr => first | (go_simp; done) | (go_simp; rfl))
        intro gb497 hg w32 hbox hb
        have HS0_ := zk hb (hHeld.1)
        have HS1_ := zk hb (hHeld.2.1)
        have HS2_ := zk hb (hHeld.2.2.1)
        have HS3_ := zk hb (hHeld.2.2.2.1)
        have HS4_ := zk hb (hHeld.2.2.2.2.1)
        have HS5_ := zk hb (hHeld.2.2.2.2.2)
        have n0_ := aM (Kd.R_below (Kd.R_elderB (mR_ HO_3.out) gb497 (Nat.le_of_eq hg.symm)) hb)
        have n1_ := aM (Kd.R_below (Kd.R_elderB (mR_ HO489.out) gb497 (Nat.le_of_eq hg.symm)) hb)
        have n2_ := aM (IsS79.below (zI79 HI0.out) hb)
        have n3_ := aM (KeepBut.trans (zK HK.out) (KeepBut.of_below hb g none) (.inl rfl))
        have n4_ := aM (below_step (zs (IsS79.ge HI0.out)) hb)
        have n5_ := aM (hbox)
        have n6_ := aM ((by rw [hg]; exact (keep_size (w := w) (g := g) (row := none) (zK HK.out)) : w.heap.size ≤ gb497))
        have n7_ := aM ((Nat.le_trans HW0.out (by rw [hg]; exact (keep_size (w := w) (g := g) (row := none) (zK HK.out)) : w.heap.size ≤ gb497) : w0.heap.size ≤ gb497))
        have n8_ := aM ((by rw [hg]; exact Nat.ne_of_lt (IsS79.lt (show IsS79 w0 _ g s0_0 t491 t492 from zI79 HI0.out)) : g ≠ gb497))
        have n9_ := aM ((by rw [hg]; exact Nat.ne_of_gt (IsS79.lt (show IsS79 w0 _ g s0_0 t491 t492 from zI79 HI0.out)) : gb497 ≠ g))
        clear HO_3
        clear HO489
        clear HI0
        clear HK
        clear HB
        have HO_3 := n0_
        have HO489 := n1_
        have HI0 := n2_
        have HK := n3_
        have HB := n4_
        have BK497 := n5_
        have GW497 := n6_
        have GE497 := n7_
        have NB0_497 := n8_
        have NB497_0 := n9_
        clear n0_ n1_ n2_ n3_ n4_ n5_ n6_ n7_ n8_ n9_
        clear hb hbox hg
        refine hK.out _ _ ⟨HS0_, HS1_, HS2_, HS3_, HS4_, HS5_⟩ (fun hHeld => ?_)
        clear hK K
        refine norm_ (a' := ?_) ?_ ?_
        rotate_left
        ·show Act.put _ (some 5) _ = _
         simp only [Act.put, xA, xB, xC, i64_w, i32_w]
         rfl
        exact norm_ (by first | (simp only [putAll, Act.put, xA, xB, xC]; done) | (simp only [putAll, Act.put, xA, xB, xC]; rfl)) (hJ4_7_9_13 (((.slice (some ad493) t487.length c9_), gb497), ad493) _ ⟨hHeld, (mR_ HO489.out), (mR_ HO_3.out), (mB_ BK497.out), GW497.out, GE497.out, NB0_497.out, NB497_0.out, (by repeat (first | (with_reducible first | exact HI0.out | apply IsS79.alloc | apply IsS79.drewN | apply IsS79.drew | apply IsS79.set_1 | apply IsS79.set_2 | refine IsS79.far ?_ NB0_497.out _) | exact HI0.out)), (by repeat (first | (with_reducible first | exact HK.out | apply KeepBut.set_ | apply keep_drewN | apply keep_drew | apply keep_alloc | refine keep_far ?_ GW497.out _) | exact HK.out)), (by repeat (first | (with_reducible first | exact HB.out | apply below_alloc | apply pw_below_drewN | apply below_drew1 | refine below_set ?_ (IsS79.ge HI0.out) | refine below_set ?_ GE497.out) | exact HB.out)), ⟨_, rfl⟩⟩)
     ·skip
      rintro ⟨⟨v488, gb497⟩, ad493⟩ w32 ⟨hS_, h0_, h1_, h2_, h3_, h4_, h5_, h6_, h7_, h8_, h9_, ⟨c9_, hE9_⟩⟩
      replace hE9_ : v488 = Value.slice (some ad493) t487.length c9_ := hE9_
      subst hE9_
      have p493 : 0 ≤ (t490 : Int) := of_decide_eq_true za
      replace p493 := eq_true p493
      have q493 : t490 < (t487.length : Int) := of_decide_eq_true za
      replace q493 := eq_true q493
      refine more_ (S' := fun w' => (spec_l09Draw.c3 w' ad493 t490 t487 ((spec_l09Draw.d3 w' ad486 t483 x3_1)))) (fun _ h_ => h_) hS_ (fun hS_ => ?_)
      have n0_ : Aside0 (Kd.R k63 63 w32 w.heap.size (fun k_ => some k_ ≠ (.slice (some ad486) x3_1.length co26 : Value).ownBlock ∧ k_ ≠ gb497) (.slice (some ad493) t487.length c9_) t487) := ⟨h0_⟩
      have n1_ : Aside0 (Kd.R k63 63 w32 w.heap.size (fun k_ => some k_ ≠ ((.slice (some ad493) t487.length c9_) : Value).ownBlock ∧ k_ ≠ gb497) (.slice (some ad486) x3_1.length co26) x3_1) := ⟨h1_⟩
      have n2_ : Aside0 (w32.heap[gb497]? = some (.cells #[.int .i64 0, .int .i64 0, .int .i64 0] 63 (0, 0))) := ⟨h2_⟩
      have n3_ : Aside0 (w.heap.size ≤ gb497) := ⟨h3_⟩
      have n4_ : Aside0 (w0.heap.size ≤ gb497) := ⟨h4_⟩
      have n5_ : Aside0 (g ≠ gb497) := ⟨h5_⟩
      have n6_ : Aside0 (gb497 ≠ g) := ⟨h6_⟩
      have n7_ : Aside0 (IsS79 w0 w32 g s0_0 t491 t492) := ⟨h7_⟩
      have n8_ : Aside0 (KeepBut w w32 g none) := ⟨h8_⟩
      have n9_ : Aside0 (Below w0.heap.size w0 w32) := ⟨h9_⟩
      clear HO_3
      clear HI0
      clear HK
      clear HB
      clear h0_ h1_ h2_ h3_ h4_ h5_ h6_ h7_ h8_ h9_
      have HO489 := n0_
      have HO_3 := n1_
      have BK497 := n2_
      have GW497 := n3_
      have GE497 := n4_
      have NB0_497 := n5_
      have NB497_0 := n6_
      have HI0 := n7_
      have HK := n8_
      have HB := n9_
      clear n0_ n1_ n2_ n3_ n4_ n5_ n6_ n7_ n8_ n9_
      have hHeld : (spec_l09Draw.c3 w32 ad493 t490 t487 ((spec_l09Draw.d3 w32 ad486 t483 x3_1))) := hS_
      refine norm_ (a' := ?_) ?_ ?_
      rotate_left
      ·simp only [putAll, Act.put, xA, xB, xC]
       rfl
      refine one_ (i := 12) (N := some 38) zA47 rfl rfl (one_of HT_.out (by kernel_rfl)) (by decide) (fun K hK => ?_)
      refine goes_ Try.func52 (by kernel_rfl) rfl #[spec_l09Draw.a3 x3_1 t483, spec_l09Draw.a3 t487 t490] (by rfl) rfl rfl zm ?_
      with_reducible refine (spec_l09Add.calls ((rd_T63 x3_1 t483).f0) ((rd_T63 x3_1 t483).f1) ((rd_T63 x3_1 t483).f2) ((rd_T63 t487 t490).f0) ((rd_T63 t487 t490).f1) ((rd_T63 t487 t490).f2) t494 t495 t496 _ A20.out).mono ?_
      rintro e w33 ⟨rfl, hb⟩
      have HS0_ := zk hb (hHeld.1)
      have HS1_ := zk hb (hHeld.2.1)
      have HS2_ := zk hb (hHeld.2.2.1)
      have HS3_ := zk hb (hHeld.2.2.2.1)
      have HS4_ := zk hb (hHeld.2.2.2.2.1)
      have HS5_ := zk hb (hHeld.2.2.2.2.2)
      refine ⟨_, rfl, ?_⟩
      have n0_ := aM (Kd.R_below (mR_ HO_3.out) hb)
      have n1_ := aM (Kd.R_below (mR_ HO489.out) hb)
      have n2_ := aM (IsS79.below (by repeat (first | (with_reducible first | exact HI0.out | apply IsS79.alloc | apply IsS79.drewN | apply IsS79.drew | apply IsS79.set_1 | apply IsS79.set_2 | refine IsS79.far ?_ NB0_497.out _) | exact HI0.out)) hb)
      have n3_ := aM (blk_below (g := gb497) (o := .cells #[.int .i64 0, .int .i64 0, .int .i64 0] 63 (0, 0)) (mB_ BK497.out) hb)
      have n4_ := aM (KeepBut.trans (by repeat (first | (with_reducible first | exact HK.out | apply KeepBut.set_ | apply keep_drewN | apply keep_drew | apply keep_alloc | refine keep_far ?_ GW497.out _) | exact HK.out)) (KeepBut.of_below hb g none) (.inl rfl))
      have n5_ := aM (below_step (by repeat (first | (with_reducible first | exact HB.out | apply below_alloc | apply pw_below_drewN | apply below_drew1 | refine below_set ?_ (IsS79.ge HI0.out) | refine below_set ?_ GE497.out) | exact HB.out)) hb)
      clear HO_3
      clear HO489
      clear HI0
      clear BK497
      clear HK
      clear HB
      have HO_3 := n0_
      have HO489 := n1_
      have HI0 := n2_
      have BK497 := n3_
      have HK := n4_
      have HB := n5_
      clear n0_ n1_ n2_ n3_ n4_ n5_
      (try clear hb)
      (try clear hb2)
      (try clear hk)
      (try clear hi)
      refine hK.out _ _ ⟨HS0_, HS1_, HS2_, HS3_, HS4_, HS5_⟩ (fun hHeld => ?_)
      clear hK K
      refine norm_ (a' := ?_) ?_ ?_
      rotate_left
      ·show Act.put _ (some 38) _ = _
       simp only [Act.put, xA, xB, xC, i64_w, i32_w]
       rfl
      exact norm_ (by first | (simp only [putAll, Act.put, xA, xB, xC]; done) | (simp only [putAll, Act.put, xA, xB, xC]; rfl)) (hJ4_7_9_12_13 (((.slice (some ad493) t487.length c9_), gb497), ad493) _ ⟨hHeld, (mR_ HO489.out), (mR_ HO_3.out), (mB_ BK497.out), GW497.out, GE497.out, NB0_497.out, NB497_0.out, (by repeat (first | (with_reducible first | exact HI0.out | apply IsS79.alloc | apply IsS79.drewN | apply IsS79.drew | apply IsS79.set_1 | apply IsS79.set_2 | refine IsS79.far ?_ NB0_497.out _) | exact HI0.out)), (by repeat (first | (with_reducible first | exact HK.out | apply KeepBut.set_ | apply keep_drewN | apply keep_drew | apply keep_alloc | refine keep_far ?_ GW497.out _) | exact HK.out)), (by repeat (first | (with_reducible first | exact HB.out | apply below_alloc | apply pw_below_drewN | apply below_drew1 | refine below_set ?_ (IsS79.ge HI0.out) | refine below_set ?_ GE497.out) | exact HB.out)), ⟨_, rfl⟩⟩)
    ·skip
     rintro ⟨v488, ad493⟩ w32 ⟨hS_, h0_, h1_, h2_, h3_, h4_, ⟨c9_, hE9_⟩⟩
     replace hE9_ : v488 = Value.slice (some ad493) t487.length c9_ := hE9_
     subst hE9_
     have p493 : 0 ≤ (t490 : Int) := of_decide_eq_true za
     replace p493 := eq_true p493
     have q493 : t490 < (t487.length : Int) := of_decide_eq_true za
     replace q493 := eq_true q493
     refine more_ (S' := fun w' => (spec_l09Draw.c3 w' ad493 t490 t487 ((spec_l09Draw.d3 w' ad486 t483 x3_1)))) (fun _ h_ => h_) hS_ (fun hS_ => ?_)
     have n0_ : Aside0 (Kd.R k63 63 w32 w.heap.size (fun k_ => some k_ ≠ (.slice (some ad486) x3_1.length co26 : Value).ownBlock) (.slice (some ad493) t487.length c9_) t487) := ⟨h0_⟩
     have n1_ : Aside0 (Kd.R k63 63 w32 w.heap.size (fun k_ => some k_ ≠ ((.slice (some ad493) t487.length c9_) : Value).ownBlock) (.slice (some ad486) x3_1.length co26) x3_1) := ⟨h1_⟩
     have n2_ : Aside0 (IsS79 w0 w32 g s0_0 t491 t492) := ⟨h2_⟩
     have n3_ : Aside0 (KeepBut w w32 g none) := ⟨h3_⟩
     have n4_ : Aside0 (Below w0.heap.size w0 w32) := ⟨h4_⟩
     clear HO_3
     clear HI0
     clear HK
     clear HB
     clear h0_ h1_ h2_ h3_ h4_
     have HO489 := n0_
     have HO_3 := n1_
     have HI0 := n2_
     have HK := n3_
     have HB := n4_
     clear n0_ n1_ n2_ n3_ n4_
     have hHeld : (spec_l09Draw.c3 w32 ad493 t490 t487 ((spec_l09Draw.d3 w32 ad486 t483 x3_1))) := hS_
     refine norm_ (a' := ?_) ?_ ?_
     rotate_left
     ·simp only [putAll, Act.put, xA, xB, xC]
      rfl
     refine one_ (i := 13) (N := some 5) zA47 rfl rfl (one_of HT_.out (by kernel_rfl)) (by decide) (fun K hK => ?_)
     refine box_step ?hg (N := 5) ?hd (cs := #[.int .i64 0, .int .i64 0, .int .i64 0]) (t := 63) ?hr ?_; (case hd => rfl); (case hg => rfl); (case hr => first | (go_simp; done) | (go_simp; rfl))
     intro gb497 hg w33 hbox hb
     have HS0_ := zk hb (hHeld.1)
     have HS1_ := zk hb (hHeld.2.1)
     have HS2_ := zk hb (hHeld.2.2.1)
     have HS3_ := zk hb (hHeld.2.2.2.1)
     have HS4_ := zk hb (hHeld.2.2.2.2.1)
     have HS5_ := zk hb (hHeld.2.2.2.2.2)
     have n0_ := aM (Kd.R_below (Kd.R_elderB (mR_ HO_3.out) gb497 (Nat.le_of_eq hg.symm)) hb)
     have n1_ := aM (Kd.R_below (Kd.R_elderB (mR_ HO489.out) gb497 (Nat.le_of_eq hg.symm)) hb)
     have n2_ := aM (IsS79.below (zI79 HI0.out) hb)
     have n3_ := aM (KeepBut.trans (zK HK.out) (KeepBut.of_below hb g none) (.inl rfl))
     have n4_ := aM (below_step (zs (IsS79.ge HI0.out)) hb)
     have n5_ := aM (hbox)
     have n6_ := aM ((by rw [hg]; exact (keep_size (w := w) (g := g) (row := none) (zK HK.out)) : w.heap.size ≤ gb497))
     have n7_ := aM ((Nat.le_trans HW0.out (by rw [hg]; exact (keep_size (w := w) (g := g) (row := none) (zK HK.out)) : w.heap.size ≤ gb497) : w0.heap.size ≤ gb497))
     have n8_ := aM ((by rw [hg]; exact Nat.ne_of_lt (IsS79.lt (show IsS79 w0 _ g s0_0 t491 t492 from zI79 HI0.out)) : g ≠ gb497))
     have n9_ := aM ((by rw [hg]; exact Nat.ne_of_gt (IsS79.lt (show IsS79 w0 _ g s0_0 t491 t492 from zI79 HI0.out)) : gb497 ≠ g))
     clear HO_3
     clear HO489
     clear HI0
     clear HK
     clear HB
     have HO_3 := n0_
     have HO489 := n1_
     have HI0 := n2_
     have HK := n3_
     have HB := n4_
     have BK497 := n5_
     have GW497 := n6_
     have GE497 := n7_
     have NB0_497 := n8_
     have NB497_0 := n9_
     clear n0_ n1_ n2_ n3_ n4_ n5_ n6_ n7_ n8_ n9_
     clear hb hbox hg
     refine hK.out _ _ ⟨HS0_, HS1_, HS2_, HS3_, HS4_, HS5_⟩ (fun hHeld => ?_)
     clear hK K
     refine norm_ (a' := ?_) ?_ ?_
     rotate_left
     ·show Act.put _ (some 5) _ = _
      simp only [Act.put, xA, xB, xC, i64_w, i32_w]
      rfl
     exact norm_ (by first | (simp only [putAll, Act.put, xA, xB, xC]; done) | (simp only [putAll, Act.put, xA, xB, xC]; rfl)) (hJ4_7_9_12_13 (((.slice (some ad493) t487.length c9_), gb497), ad493) _ ⟨hHeld, (mR_ HO489.out), (mR_ HO_3.out), (mB_ BK497.out), GW497.out, GE497.out, NB0_497.out, NB497_0.out, (by repeat (first | (with_reducible first | exact HI0.out | apply IsS79.alloc | apply IsS79.drewN | apply IsS79.drew | apply IsS79.set_1 | apply IsS79.set_2 | refine IsS79.far ?_ NB0_497.out _) | exact HI0.out)), (by repeat (first | (with_reducible first | exact HK.out | apply KeepBut.set_ | apply keep_drewN | apply keep_drew | apply keep_alloc | refine keep_far ?_ GW497.out _) | exact HK.out)), (by repeat (first | (with_reducible first | exact HB.out | apply below_alloc | apply pw_below_drewN | apply below_drew1 | refine below_set ?_ (IsS79.ge HI0.out) | refine below_set ?_ GE497.out) | exact HB.out)), ⟨_, rfl⟩⟩)
   rintro ⟨⟨v488, gb497⟩, ad493⟩ w33 ⟨hS_, h0_, h1_, h2_, h3_, h4_, h5_, h6_, h7_, h8_, h9_, ⟨c9_, hE9_⟩⟩
   replace hE9_ : v488 = Value.slice (some ad493) t487.length c9_ := hE9_
   subst hE9_
   have p493 : 0 ≤ (t490 : Int) := of_decide_eq_true za
   replace p493 := eq_true p493
   have q493 : t490 < (t487.length : Int) := of_decide_eq_true za
   replace q493 := eq_true q493
   refine more_ (S' := fun w' => (spec_l09Draw.c3 w' ad493 t490 t487 ((spec_l09Draw.d3 w' ad486 t483 x3_1)))) (fun _ h_ => h_) hS_ (fun hS_ => ?_)
   have n0_ : Aside0 (Kd.R k63 63 w33 w.heap.size (fun k_ => some k_ ≠ (.slice (some ad486) x3_1.length co26 : Value).ownBlock ∧ k_ ≠ gb497) (.slice (some ad493) t487.length c9_) t487) := ⟨h0_⟩
   have n1_ : Aside0 (Kd.R k63 63 w33 w.heap.size (fun k_ => some k_ ≠ ((.slice (some ad493) t487.length c9_) : Value).ownBlock ∧ k_ ≠ gb497) (.slice (some ad486) x3_1.length co26) x3_1) := ⟨h1_⟩
   have n2_ : Aside0 (w33.heap[gb497]? = some (.cells #[.int .i64 0, .int .i64 0, .int .i64 0] 63 (0, 0))) := ⟨h2_⟩
   have n3_ : Aside0 (w.heap.size ≤ gb497) := ⟨h3_⟩
   have n4_ : Aside0 (w0.heap.size ≤ gb497) := ⟨h4_⟩
   have n5_ : Aside0 (g ≠ gb497) := ⟨h5_⟩
   have n6_ : Aside0 (gb497 ≠ g) := ⟨h6_⟩
   have n7_ : Aside0 (IsS79 w0 w33 g s0_0 t491 t492) := ⟨h7_⟩
   have n8_ : Aside0 (KeepBut w w33 g none) := ⟨h8_⟩
   have n9_ : Aside0 (Below w0.heap.size w0 w33) := ⟨h9_⟩
   clear HO_3
   clear HI0
   clear HK
   clear HB
   clear h0_ h1_ h2_ h3_ h4_ h5_ h6_ h7_ h8_ h9_
   have HO489 := n0_
   have HO_3 := n1_
   have BK497 := n2_
   have GW497 := n3_
   have GE497 := n4_
   have NB0_497 := n5_
   have NB497_0 := n6_
   have HI0 := n7_
   have HK := n8_
   have HB := n9_
   clear n0_ n1_ n2_ n3_ n4_ n5_ n6_ n7_ n8_ n9_
   have hHeld : (spec_l09Draw.c3 w33 ad493 t490 t487 ((spec_l09Draw.d3 w33 ad486 t483 x3_1))) := hS_
   refine norm_ (a' := ?_) ?_ ?_
   rotate_left
   ·simp only [putAll, Act.put, xA, xB, xC]
    rfl
   refine one_ (i := 14) (N := none) zA48 rfl rfl (one_of HT_.out (by kernel_rfl)) (by decide) (fun K hK => ?_)
   have hs34 : w33.cell? ⟨gb497, 0, none⟩ = some (.int .i64 0) := (blk_cell BK497.out 0).trans rfl
   have hfs34 := blk_frozen BK497.out 0
   have hs35 : w33.cell? ⟨gb497, 1, none⟩ = some (.int .i64 0) := (blk_cell BK497.out 1).trans rfl
   have hfs35 := blk_frozen BK497.out 1
   have hs36 : w33.cell? ⟨gb497, 2, none⟩ = some (.int .i64 0) := (blk_cell BK497.out 2).trans rfl
   have hfs36 := blk_frozen BK497.out 2
   refine skip_ (w1 := ?_) (by rfl) rfl ?_ ?_
   rotate_left
   ·go_simp
    rfl
   refine hK.out _ _ ⟨((cell_far (p := ⟨gb497, _, none⟩) (zd5 HO489.out) _).trans (((cell_far (p := ⟨gb497, _, none⟩) (zd5 HO489.out) _).trans (((cell_far (p := ⟨gb497, _, none⟩) (zd5 HO489.out) _).trans (hHeld.1)))))), ((cell_far (p := ⟨gb497, _, none⟩) (zd5 HO489.out) _).trans (((cell_far (p := ⟨gb497, _, none⟩) (zd5 HO489.out) _).trans (((cell_far (p := ⟨gb497, _, none⟩) (zd5 HO489.out) _).trans (hHeld.2.1)))))), ((cell_far (p := ⟨gb497, _, none⟩) (zd5 HO489.out) _).trans (((cell_far (p := ⟨gb497, _, none⟩) (zd5 HO489.out) _).trans (((cell_far (p := ⟨gb497, _, none⟩) (zd5 HO489.out) _).trans (hHeld.2.2.1)))))), ((cell_far (p := ⟨gb497, _, none⟩) (zd5 HO_3.out) _).trans (((cell_far (p := ⟨gb497, _, none⟩) (zd5 HO_3.out) _).trans (((cell_far (p := ⟨gb497, _, none⟩) (zd5 HO_3.out) _).trans (hHeld.2.2.2.1)))))), ((cell_far (p := ⟨gb497, _, none⟩) (zd5 HO_3.out) _).trans (((cell_far (p := ⟨gb497, _, none⟩) (zd5 HO_3.out) _).trans (((cell_far (p := ⟨gb497, _, none⟩) (zd5 HO_3.out) _).trans (hHeld.2.2.2.2.1)))))), ((cell_far (p := ⟨gb497, _, none⟩) (zd5 HO_3.out) _).trans (((cell_far (p := ⟨gb497, _, none⟩) (zd5 HO_3.out) _).trans (((cell_far (p := ⟨gb497, _, none⟩) (zd5 HO_3.out) _).trans (hHeld.2.2.2.2.2))))))⟩ (fun hHeld => ?_)
   clear hK K
   refine done_ (done_of HT_.out (by kernel_rfl)) ?_
   have hnb37 := NB497_0.out
   have hnc37 := NB0_497.out
   have hcz38_0 : w33.cell? ⟨gb497, 0, none⟩ = some (.int .i64 0) := (blk_cell BK497.out 0).trans rfl
   have hcz38_1 : w33.cell? ⟨gb497, 1, none⟩ = some (.int .i64 0) := (blk_cell BK497.out 1).trans rfl
   have hcz38_2 : w33.cell? ⟨gb497, 2, none⟩ = some (.int .i64 0) := (blk_cell BK497.out 2).trans rfl
   have hfz38_0 := blk_frozen BK497.out 0
   have hfz38_1 := blk_frozen BK497.out 1
   have hfz38_2 := blk_frozen BK497.out 2
   try go_wp2_with (first | ((with_reducible refine gate_callee (f := 54) rfl ?_); refine goesL_ (some 41) rfl rfl Try.func54 (by kernel_rfl) rfl #[.slice (some ad486) x3_1.length co26, .agg #[.int .i64 t494, .int .i64 t495, .int .i64 t496]] rfl zm ?_; (with_reducible refine (spec_l09Index.calls k1 _ _ x3_1 t494 t495 t496 t498 _ ?side1 ?side2 A21.out).mono ?_); (case side1 => refine (Kd.R_reads' (e := 63) (base := w.heap.size) (ok := fun k_ => (some k_ ≠ ((.slice (some ad493) t487.length c9_) : Value).ownBlock ∧ k_ ≠ gb497)) (n := x3_1.length) (c := co26) ?_).2.2; exact (by (with_reducible repeat (first | apply Kd.R_alloc | apply Kd.R_drewN | apply Kd.R_drew)); exact (Kd.R_mono (Kd.R_far (p := ⟨gb497, 2, none⟩) (Kd.R_far (p := ⟨gb497, 1, none⟩) (Kd.R_far (p := ⟨gb497, 0, none⟩) (Kd.R_mono HO_3.out (fun k_ hk => (⟨hk, hk.2⟩ : _ ∧ k_ ≠ gb497))) (fun _ hk => hk.2) (.int .i64 t494)) (fun _ hk => hk.2) (.int .i64 t495)) (fun _ hk => hk.2) (.int .i64 t496)) (fun _ h_ => h_.1)))); (case side2 => exact (Kd.R_reads' HO_3.out).2.1); rintro e w39 ⟨rfl, hb⟩; refine ⟨_, rfl, ?_⟩; have n0_ := aM (Kd.R_below (by (with_reducible repeat (first | apply Kd.R_alloc | apply Kd.R_drewN | apply Kd.R_drew)); exact (Kd.R_mono (Kd.R_far (p := ⟨gb497, 2, none⟩) (Kd.R_far (p := ⟨gb497, 1, none⟩) (Kd.R_far (p := ⟨gb497, 0, none⟩) (Kd.R_mono HO_3.out (fun k_ hk => (⟨hk, hk.2⟩ : _ ∧ k_ ≠ gb497))) (fun _ hk => hk.2) (.int .i64 t494)) (fun _ hk => hk.2) (.int .i64 t495)) (fun _ hk => hk.2) (.int .i64 t496)) (fun _ h_ => h_.1))) hb); have n1_ := aM (Kd.R_below (by (with_reducible repeat (first | apply Kd.R_alloc | apply Kd.R_drewN | apply Kd.R_drew)); exact (Kd.R_mono (Kd.R_far (p := ⟨gb497, 2, none⟩) (Kd.R_far (p := ⟨gb497, 1, none⟩) (Kd.R_far (p := ⟨gb497, 0, none⟩) (Kd.R_mono HO489.out (fun k_ hk => (⟨hk, hk.2⟩ : _ ∧ k_ ≠ gb497))) (fun _ hk => hk.2) (.int .i64 t494)) (fun _ hk => hk.2) (.int .i64 t495)) (fun _ hk => hk.2) (.int .i64 t496)) (fun _ h_ => h_.1))) hb); have n2_ := aM (IsS79.below (show IsS79 w0 (((w33.setCell ⟨gb497, 0, none⟩ (.int .i64 t494)).setCell ⟨gb497, 1, none⟩ (.int .i64 t495)).setCell ⟨gb497, 2, none⟩ (.int .i64 t496)) g s0_0 t491 t492 from by repeat (first | (with_reducible first | exact HI0.out | apply IsS79.alloc | apply IsS79.drewN | apply IsS79.drew | apply IsS79.set_1 | apply IsS79.set_2 | refine IsS79.far ?_ NB0_497.out _) | exact HI0.out)) hb); have n3_ := aM (blk_below (g := gb497) (o := .cells #[.int .i64 t494, .int .i64 t495, .int .i64 t496] 63 (0, 0)) (by (with_reducible repeat (first | refine blk_drewN ?_ _ | refine blk_drew ?_ | refine blk_alloc ?_ _)); refine blk_put (cs := #[.int .i64 t494, .int .i64 t495, .int .i64 0]) ?_ 2 _ rfl; (with_reducible repeat (first | refine blk_drewN ?_ _ | refine blk_drew ?_ | refine blk_alloc ?_ _)); refine blk_put (cs := #[.int .i64 t494, .int .i64 0, .int .i64 0]) ?_ 1 _ rfl; (with_reducible repeat (first | refine blk_drewN ?_ _ | refine blk_drew ?_ | refine blk_alloc ?_ _)); refine blk_put (cs := #[.int .i64 0, .int .i64 0, .int .i64 0]) ?_ 0 _ rfl; (with_reducible repeat (first | refine blk_drewN ?_ _ | refine blk_drew ?_ | refine blk_alloc ?_ _)); exact BK497.out) hb); have n4_ := aM (KeepBut.trans (by repeat (first | (with_reducible first | exact HK.out | apply KeepBut.set_ | apply keep_drewN | apply keep_drew | apply keep_alloc | refine keep_far ?_ GW497.out _) | exact HK.out)) (KeepBut.of_below hb g none) (.inl rfl)); have n5_ := aM (below_step (by repeat (first | (with_reducible first | exact HB.out | apply below_alloc | apply pw_below_drewN | apply below_drew1 | refine below_set ?_ (IsS79.ge HI0.out) | refine below_set ?_ GE497.out) | exact HB.out)) hb); clear HO_3 HO489 HI0 BK497 HK HB; have HO_3 := n0_; have HO489 := n1_; have HI0 := n2_; have BK497 := n3_; have HK := n4_; have HB := n5_; clear n0_ n1_ n2_ n3_ n4_ n5_; (try clear hb); (try clear hb2); (try clear hk); (try clear hi); have hcz40_0 : w39.cell? ⟨gb497, 0, none⟩ = some (.int .i64 t494) := (blk_cell BK497.out 0).trans rfl; have hcz40_1 : w39.cell? ⟨gb497, 1, none⟩ = some (.int .i64 t495) := (blk_cell BK497.out 1).trans rfl; have hcz40_2 : w39.cell? ⟨gb497, 2, none⟩ = some (.int .i64 t496) := (blk_cell BK497.out 2).trans rfl; have hfz40_0 := blk_frozen BK497.out 0; have hfz40_1 := blk_frozen BK497.out 1; have hfz40_2 := blk_frozen BK497.out 2) | ((with_reducible refine gate_builtin (b := .append) (xs := #[.tmp 43, .tmp 45]) rfl ?_); at_builtin; refine Kd.R_append k63 w.heap.size rfl (.tmp 43) (.tmp 45) 34 63 (.agg #[(.int .i64 0), (.int .i64 0), (.int .i64 0)]) 24 rfl Try.underlying34 info63 rfl (by decide) (by omega) (.slice (some ad486) x3_1.length co26) x3_1 (⟨t494, t495, t496⟩ : S63) [.int .i64 t494, .int .i64 t495, .int .i64 t496] (fun k_ => some k_ ≠ ((.slice (some ad493) t487.length c9_) : Value).ownBlock ∧ k_ ≠ gb497) (fun _ => False) rfl rfl ?aP (fun _ hk => hk.elim) ?aF ?aO (Below.refl _ _) ?aS ?aL ?_; (case aP => exact k63_mkM _ _ _ (⟨t494, t495, t496⟩ : S63)); (case aF => exact (fun k_ hk => ⟨Kd.fresh' (Kd.R_lt (mR_ HO489.out)) k_ hk, Kd.freshB (g := gb497) (o := .cells #[.int .i64 t494, .int .i64 t495, .int .i64 t496] 63 (0, 0)) (mB_ BK497.out) k_ hk⟩)); (case aO => exact (mR_ HO_3.out)); (case aS => exact (keep_size (w := w) (g := g) (row := none) (by repeat (first | (with_reducible first | exact HK.out | apply KeepBut.set_ | apply keep_drewN | apply keep_drew | apply keep_alloc | refine keep_far ?_ GW497.out _) | exact HK.out)))); (case aL => have := LMc23.out; omega); intro v500 w41 ho hb hg hat; rw [← Ny499.out] at ho; have n0_ := aM (IsS79.grown (by repeat (first | (with_reducible first | exact HI0.out | apply IsS79.alloc | apply IsS79.drewN | apply IsS79.drew | apply IsS79.set_1 | apply IsS79.set_2 | refine IsS79.far ?_ NB0_497.out _) | exact HI0.out)) hg (IsS79.own_ne HI0.out HO_3.out (by decide))); have n1_ := aM (Kd.R_after (ok := (fun k_ => k_ ≠ gb497)) (zd2 HO489.out) hg hat); have n2_ := aM (blk_grown (g := gb497) (o := .cells #[.int .i64 t494, .int .i64 t495, .int .i64 t496] 63 (0, 0)) (mB_ BK497.out) hg (Kd.R_away HO_3.out (fun _ hk => hk.2))); have n3_ := aM (below_weaken (by repeat (first | (with_reducible first | exact HB.out | apply below_alloc | apply pw_below_drewN | apply below_drew1 | refine below_set ?_ (IsS79.ge HI0.out) | refine below_set ?_ GE497.out) | exact HB.out)) HL.out hb); have n4_ := aM (KeepBut.trans (by repeat (first | (with_reducible first | exact HK.out | apply KeepBut.set_ | apply keep_drewN | apply keep_drew | apply keep_alloc | refine keep_far ?_ GW497.out _) | exact HK.out)) (KeepBut.of_grown hg g) (Kd.R_base2 HO_3.out)); have n5_ := aM (ho); clear HI0 HO489 BK497 HB HK HO_3; have HI0 := n0_; have HO489 := n1_; have BK497 := n2_; have HB := n3_; have HK := n4_; have HO501 := n5_; clear n0_ n1_ n2_ n3_ n4_ n5_ ho hb hg hat; obtain ⟨Ao42, co42, eo42⟩ := Kd.R_slice HO501.out; subst eo42) | ((with_reducible refine gate_callee (f := 57) rfl ?_); refine goesL_ (some 47) rfl rfl Try.func57 (by kernel_rfl) rfl #[.slice Ao42 y499.length co42] rfl zm ?_; (with_reducible refine (spec_l09Sort.calls k1 _ _ y499 t502 _ ?side1 ?side2 A24.out).mono ?_); (case side1 => exact zc HO501.out); (case side2 => exact (Kd.R_reads' HO501.out).2.1); rintro e w43 ⟨v503, rfl, ho0, hb⟩; refine ⟨_, rfl, ?_⟩; have n0_ := aM (Kd.R_elder' (mR_ HO489.out) (Kd.R_base ho0) hb); have n1_ := aM (Kd.R_elder' (mR_ HO501.out) (Kd.R_base ho0) hb); have n2_ := aM (Kd.R_lower (Kd.R_newB (Kd.R_new' (Kd.R_new' ho0 (Kd.R_lt (mR_ HO489.out))) (Kd.R_lt (mR_ HO501.out))) (g := gb497) (o := .cells #[.int .i64 t494, .int .i64 t495, .int .i64 t496] 63 (0, 0)) (mB_ BK497.out)) (keep_size (w := w) (g := g) (row := none) (by repeat (first | (with_reducible first | exact HK.out | apply KeepBut.set_ | apply keep_drewN | apply keep_drew | apply keep_alloc | refine keep_far ?_ GW497.out _) | exact HK.out)))); have n3_ := aM (IsS79.below (by repeat (first | (with_reducible first | exact HI0.out | apply IsS79.alloc | apply IsS79.drewN | apply IsS79.drew | apply IsS79.set_1 | apply IsS79.set_2 | refine IsS79.far ?_ NB0_497.out _) | exact HI0.out)) hb); have n4_ := aM (blk_below (g := gb497) (o := .cells #[.int .i64 t494, .int .i64 t495, .int .i64 t496] 63 (0, 0)) (mB_ BK497.out) hb); have n5_ := aM (KeepBut.trans (by repeat (first | (with_reducible first | exact HK.out | apply KeepBut.set_ | apply keep_drewN | apply keep_drew | apply keep_alloc | refine keep_far ?_ GW497.out _) | exact HK.out)) (KeepBut.of_below hb g none) (.inl rfl)); have n6_ := aM (below_step (by repeat (first | (with_reducible first | exact HB.out | apply below_alloc | apply pw_below_drewN | apply below_drew1 | refine below_set ?_ (IsS79.ge HI0.out) | refine below_set ?_ GE497.out) | exact HB.out)) hb); clear HO489 HO501 HI0 BK497 HK HB; have HO489 := n0_; have HO501 := n1_; have HO504 := n2_; have HI0 := n3_; have BK497 := n4_; have HK := n5_; have HB := n6_; clear n0_ n1_ n2_ n3_ n4_ n5_ n6_; (try clear hb); (try clear hb2); (try clear hk); (try clear hi); (try clear ho0)))
   go_roundg k1
   case measure => have := HK1.out; omega
   case rel => exact ⟨(t502), (wrap64 (x4_1 - 1)), (t491), (t492), zr, H', ⟨by have := HK1.out; omega⟩, ⟨zd1 HO504.out⟩, ⟨by repeat (first | (with_reducible first | exact HI0.out | apply IsS79.alloc | apply IsS79.drewN | apply IsS79.drew | apply IsS79.set_1 | apply IsS79.set_2 | refine IsS79.far ?_ NB0_497.out _) | exact HI0.out)⟩, ⟨by repeat (first | (with_reducible first | exact HK.out | apply KeepBut.set_ | apply keep_drewN | apply keep_drew | apply keep_alloc | refine keep_far ?_ GW497.out _) | exact HK.out)⟩, ⟨by repeat (first | (with_reducible first | exact HB.out | apply below_alloc | apply pw_below_drewN | apply below_drew1 | refine below_set ?_ (IsS79.ge HI0.out) | refine below_set ?_ GE497.out) | exact HB.out)⟩⟩
end Go.Proofs.Ytonldmalaajkgaa.F
end
section
namespace Go.Proofs.Ytonldmalaajkgaa.F
open Go.RowKit Go.Proofs.YtonldmalaajkgaaW.PrintWords Go.Proofs.YtonldmalaajkgaaW.PrintLast Go.Proofs.YtonldmalaajkgaaW.PrintMore
attribute [local go_sem] max2_int min2_int max_two min_two max_three min_three max_four min_four
set_option linter.unusedVariables false
set_option linter.unusedSimpArgs false
end Go.Proofs.Ytonldmalaajkgaa.F
end
