/- The row of FnLayers, with what it needs: text 7 of 10. -/
import Derived.Test.YtdcpahfpnjnmcaaKLY5
set_option maxHeartbeats 8000000
set_option maxRecDepth 100000
section
namespace Go.Proofs.Ytdcpahfpnjnmcaa.F
open Go.RowKit Go.Proofs.YtdcpahfpnjnmcaaW.PrintWords Go.Proofs.YtdcpahfpnjnmcaaW.PrintLast Go.Proofs.YtdcpahfpnjnmcaaW.PrintMore
attribute [local go_sem] max2_int min2_int max_two min_two max_three min_three max_four min_four
set_option linter.unusedVariables false
set_option linter.unusedSimpArgs false
abbrev spec_l09Draw.c3 (w : World) (a : Addr) (i : Int) (l : List S47) (R : Prop) : Prop := w.cell? (a.add (i.toNat * 3)) = some (.int .i64 ((rd_T47 l i).f0)) ∧ w.cell? ⟨(a.add (i.toNat * 3)).block, (a.add (i.toNat * 3)).off + 1, none⟩ = some (.int .i64 ((rd_T47 l i).f1)) ∧ w.cell? ⟨(a.add (i.toNat * 3)).block, (a.add (i.toNat * 3)).off + 2, none⟩ = some (.int .i64 ((rd_T47 l i).f2)) ∧ R
abbrev spec_l09Draw.d3 (w : World) (a : Addr) (i : Int) (l : List S47) : Prop := w.cell? (a.add (i.toNat * 3)) = some (.int .i64 ((rd_T47 l i).f0)) ∧ w.cell? ⟨(a.add (i.toNat * 3)).block, (a.add (i.toNat * 3)).off + 1, none⟩ = some (.int .i64 ((rd_T47 l i).f1)) ∧ w.cell? ⟨(a.add (i.toNat * 3)).block, (a.add (i.toNat * 3)).off + 2, none⟩ = some (.int .i64 ((rd_T47 l i).f2))
theorem spec_l09Draw.calls (k : Nat) (g : Nat) (s0_0 : List Int) (s0_1 : Int) (s0_2 : Int) (r1 : List (S47)) (r2 : Int) (r3 : Int) (w0 w : World) (hI : IsS92 w0 w g s0_0 s0_1 s0_2) (hB : Below w0.heap.size w0 w) (h : spec_l09Draw.f k s0_0 s0_1 s0_2 = some (r1, r2, r3)) :
  Calls Try.prog 49 #[.pointer (some ⟨g, 0, none⟩)] w fun e w' => ∃ v0_ : Value, e = .returned (v0_) ∧ Kd.R k47 47 w' w.heap.size (fun _ => True) v0_ r1 ∧ IsS92 w0 w' g s0_0 r2 r3 ∧ Below w0.heap.size w0 w' ∧ KeepBut w w' g none := by
 have hu47 := Try.underlying47
 have HI0 := aM hI
 have HK := aM (KeepBut.refl w g none)
 have HL := aM hB.size
 clear hI
 have HW0 := aM hB.size
 have HB := aM hB
 clear hB
 have H : ((spec_l01Next.f s0_0 s0_1 s0_2 5).bind fun bt355 => ((spec_l01Next.f s0_0 bt355.2.1 bt355.2.2 5).bind fun bt358 => ((spec_l01Next.f s0_0 bt358.2.1 bt358.2.2 5).bind fun bt361 => ((spec_l01Next.f s0_0 bt361.2.1 bt361.2.2 7).bind fun bt367 => (spec_l09Draw.l0 k (([(⟨wrap64 (bt355.1 - 2), wrap64 (bt358.1 - 2), wrap64 (bt361.1 - 2)⟩ : S47)] : List (S47))) bt367.1 s0_0 bt367.2.1 bt367.2.2))))) = some (r1, r2, r3) := h
 clear h
 replace H := Option.bind_eq_some_iff.mp H
 obtain ⟨⟨t355, t356, t357⟩, A20, H⟩ := H
 replace H : ((spec_l01Next.f s0_0 t356 t357 5).bind fun bt358 => ((spec_l01Next.f s0_0 bt358.2.1 bt358.2.2 5).bind fun bt361 => ((spec_l01Next.f s0_0 bt361.2.1 bt361.2.2 7).bind fun bt367 => (spec_l09Draw.l0 k (([(⟨wrap64 (t355 - 2), wrap64 (bt358.1 - 2), wrap64 (bt361.1 - 2)⟩ : S47)] : List (S47))) bt367.1 s0_0 bt367.2.1 bt367.2.2)))) = some (r1, r2, r3) := H
 have A2 := aM A20
 clear A20
 replace H := Option.bind_eq_some_iff.mp H
 obtain ⟨⟨t358, t359, t360⟩, A30, H⟩ := H
 replace H : ((spec_l01Next.f s0_0 t359 t360 5).bind fun bt361 => ((spec_l01Next.f s0_0 bt361.2.1 bt361.2.2 7).bind fun bt367 => (spec_l09Draw.l0 k (([(⟨wrap64 (t355 - 2), wrap64 (t358 - 2), wrap64 (bt361.1 - 2)⟩ : S47)] : List (S47))) bt367.1 s0_0 bt367.2.1 bt367.2.2))) = some (r1, r2, r3) := H
 have A3 := aM A30
 clear A30
 replace H := Option.bind_eq_some_iff.mp H
 obtain ⟨⟨t361, t362, t363⟩, A40, H⟩ := H
 replace H : ((spec_l01Next.f s0_0 t362 t363 7).bind fun bt367 => (spec_l09Draw.l0 k (([(⟨wrap64 (t355 - 2), wrap64 (t358 - 2), wrap64 (t361 - 2)⟩ : S47)] : List (S47))) bt367.1 s0_0 bt367.2.1 bt367.2.2)) = some (r1, r2, r3) := H
 have A4 := aM A40
 clear A40
 obtain ⟨y364, hy364⟩ : ∃ y_ : List (S47), y_ = (([(⟨wrap64 (t355 - 2), wrap64 (t358 - 2), wrap64 (t361 - 2)⟩ : S47)] : List (S47))) := ⟨_, rfl⟩
 replace H : ((spec_l01Next.f s0_0 t362 t363 7).bind fun bt367 => (spec_l09Draw.l0 k y364 bt367.1 s0_0 bt367.2.1 bt367.2.2)) = some (r1, r2, r3) := zy H hy364
 have Ny364 := aM hy364
 clear hy364
 replace H := Option.bind_eq_some_iff.mp H
 obtain ⟨⟨t367, t368, t369⟩, A50, H⟩ := H
 replace H : (spec_l09Draw.l0 k y364 t367 s0_0 t368 t369) = some (r1, r2, r3) := H
 have A5 := aM A50
 clear A50
 have H' := aM H
 clear H
 go_enter Try.func49, Try.ntmps49
 go_wp2_with (first | ((with_reducible refine gate_callee (f := 74) rfl ?_); refine goesL_ (some 10) rfl rfl Try.func74 (by kernel_rfl) rfl #[.pointer (some ⟨g, 0, none⟩), .int .i64 5] rfl zm ?_; (with_reducible refine (spec_l01Next.calls g s0_0 s0_1 s0_2 5 t355 t356 t357 w0 _ ?side1 ?side2 A2.out).mono ?_); (case side1 => exact zI92 HI0.out); (case side2 => exact zs (IsS92.ge HI0.out)); rintro e w6 ⟨rfl, hi, hb, hk⟩; refine ⟨_, rfl, ?_⟩; have n0_ := aM (KeepBut.trans (zK HK.out) hk (.inl rfl)); have n1_ := aM (hb); have n2_ := aM (hi); clear HK; clear HB; clear HI0; have HK := n0_; have HB := n1_; have HI0 := n2_; clear n0_ n1_ n2_; (try clear hb); (try clear hb2); (try clear hk); (try clear hi)) | ((with_reducible refine gate_callee (f := 74) rfl ?_); refine goesL_ (some 13) rfl rfl Try.func74 (by kernel_rfl) rfl #[.pointer (some ⟨g, 0, none⟩), .int .i64 5] rfl zm ?_; (with_reducible refine (spec_l01Next.calls g s0_0 t356 t357 5 t358 t359 t360 w0 _ ?side1 ?side2 A3.out).mono ?_); (case side1 => exact zI92 HI0.out); (case side2 => exact zs (IsS92.ge HI0.out)); rintro e w7 ⟨rfl, hi, hb, hk⟩; refine ⟨_, rfl, ?_⟩; have n0_ := aM (KeepBut.trans (zK HK.out) hk (.inl rfl)); have n1_ := aM (hb); have n2_ := aM (hi); clear HK; clear HB; clear HI0; have HK := n0_; have HB := n1_; have HI0 := n2_; clear n0_ n1_ n2_; (try clear hb); (try clear hb2); (try clear hk); (try clear hi)) | ((with_reducible refine gate_callee (f := 74) rfl ?_); refine goesL_ (some 16) rfl rfl Try.func74 (by kernel_rfl) rfl #[.pointer (some ⟨g, 0, none⟩), .int .i64 5] rfl zm ?_; (with_reducible refine (spec_l01Next.calls g s0_0 t359 t360 5 t361 t362 t363 w0 _ ?side1 ?side2 A4.out).mono ?_); (case side1 => exact zI92 HI0.out); (case side2 => exact zs (IsS92.ge HI0.out)); rintro e w8 ⟨rfl, hi, hb, hk⟩; refine ⟨_, rfl, ?_⟩; have n0_ := aM (KeepBut.trans (zK HK.out) hk (.inl rfl)); have n1_ := aM (hb); have n2_ := aM (hi); clear HK; clear HB; clear HI0; have HK := n0_; have HB := n1_; have HI0 := n2_; clear n0_ n1_ n2_; (try clear hb); (try clear hb2); (try clear hk); (try clear hi)) | ((with_reducible refine gate_dst (N := 19) rfl ?_); refine Kd.R_lit k47 _ 47 ?hg (N := 19) ?hd (xs := ([(⟨wrap64 (t355 - 2), wrap64 (t358 - 2), wrap64 (t361 - 2)⟩ : S47)] : List (S47))) (inner := [.int .i64 (wrap64 (t355 - 2)), .int .i64 (wrap64 (t358 - 2)), .int .i64 (wrap64 (t361 - 2))]) (ok := fun _ => True) (okp := fun _ => True) ?hr ?hp (fun _ hk => hk) trivial (Below.refl _ _) (Nat.le_refl _) (by simp) ?_; (case hd => rfl); (case hg => rfl); (case hr => first | (go_simp; done) | (go_simp; rfl)); (case hp => exact (Reps.c3 (show Kd.M k47 _ _ _ (⟨wrap64 (t355 - 2), wrap64 (t358 - 2), wrap64 (t361 - 2)⟩ : S47) [.int .i64 (wrap64 (t355 - 2)), .int .i64 (wrap64 (t358 - 2)), .int .i64 (wrap64 (t361 - 2))] from (k47_mkM _ _ _ (⟨wrap64 (t355 - 2), wrap64 (t358 - 2), wrap64 (t361 - 2)⟩ : S47) )) (Reps.none _ _))); intro v365 w9 ho10 hb hg_ hnew_; clear hg_ hnew_; (first | rw [← Ny364.out] at ho10 | (simp only [Int.reduceToNat] at ho10; rw [← Ny364.out] at ho10)); have n0_ := aM (Kd.R_lower ho10 (keep_size (w := w) (g := g) (row := none) (zK HK.out))); have n1_ := aM (IsS92.below (zI92 HI0.out) hb); have n2_ := aM (KeepBut.trans (zK HK.out) (KeepBut.of_below hb g none) (.inl rfl)); have n3_ := aM (below_step (zs (IsS92.ge HI0.out)) hb); clear HI0; clear HK; clear HB; have HO366 := n0_; have HI0 := n1_; have HK := n2_; have HB := n3_; clear n0_ n1_ n2_ n3_; clear hb ho10) | ((with_reducible refine gate_callee (f := 74) rfl ?_); refine goesL_ (some 21) rfl rfl Try.func74 (by kernel_rfl) rfl #[.pointer (some ⟨g, 0, none⟩), .int .i64 7] rfl zm ?_; (with_reducible refine (spec_l01Next.calls g s0_0 t362 t363 7 t367 t368 t369 w0 _ ?side1 ?side2 A5.out).mono ?_); (case side1 => exact zI92 HI0.out); (case side2 => exact zs (IsS92.ge HI0.out)); rintro e w11 ⟨rfl, hi, hb, hk⟩; refine ⟨_, rfl, ?_⟩; have n0_ := aM (Kd.R_mono (Kd.R_keep (IsS92.apart (show IsS92 w0 _ g s0_0 t362 t363 from zI92 HI0.out) (mR_ HO366.out) (by decide)) hk (fun _ h => h.2)) (fun _ h => h.1)); have n1_ := aM (KeepBut.trans (zK HK.out) hk (.inl rfl)); have n2_ := aM (hb); have n3_ := aM (hi); clear HO366; clear HK; clear HB; clear HI0; have HO366 := n0_; have HK := n1_; have HB := n2_; have HI0 := n3_; clear n0_ n1_ n2_ n3_; (try clear hb); (try clear hb2); (try clear hk); (try clear hi)))
 go_loopg [3, 4] k (fun kq v3 v4 w' => ∃ (x3_1 : List (S47)) (x4_1 : Int) (x1001_1 : Int) (x1002_1 : Int), v4 = .int .i64 x4_1 ∧ Aside0 (spec_l09Draw.l0 kq x3_1 x4_1 s0_0 x1001_1 x1002_1 = some (r1, r2, r3)) ∧ Aside0 (kq ≤ k) ∧ Aside0 (Kd.R k47 47 w' w.heap.size (fun _ => True) v3 x3_1) ∧ Aside0 (IsS92 w0 w' g s0_0 x1001_1 x1002_1) ∧ Aside0 (KeepBut w w' g none) ∧ Aside0 (Below w0.heap.size w0 w'))
 case atStart => exact ⟨(y364), (t367), (t368), (t369), zr, H', ⟨Nat.le_refl _⟩, ⟨mR_ HO366.out⟩, ⟨zI92 HI0.out⟩, ⟨zK HK.out⟩, ⟨zs (IsS92.ge HI0.out)⟩⟩
 case round =>
  clear H'
  try clear p2
  try clear c3
  try clear c4
  try clear p6
  try clear c7
  obtain ⟨x3_1, x4_1, x1001_1, x1002_1, rfl, HA, HK1, HO_3, HI0, HK, HB⟩ := hrel
  cases gk with
  | zero => exact absurd HA.out (by simp [spec_l09Draw.l0])
  | succ k1 =>
   have H := HA.out
   clear HA
   simp only [spec_l09Draw.l0] at H
   by_cases c12 : x4_1 > 0
   rotate_left
   ·rw [if_neg c12] at H
    have c12b0 : decide (0 < x4_1) = false := decide_eq_false c12
    clear c12
    replace H := Option.bind_eq_some_iff.mp H
    obtain ⟨⟨t392, t393, t394⟩, A590, H⟩ := H
    replace H : ((spec_l01Next.f s0_0 t393 t394 24).bind fun bt395 => (if bt395.1 = 0 then ((some (([(-100), 100, 101] : List Int) : List Int)).bind fun y398 => ((spec_l01Next.f s0_0 bt395.2.1 bt395.2.2 3).bind fun bt401 => (if 0 ≤ bt401.1 then (if bt401.1 < (y398.length : Int) then (if 0 ≤ t392 then (if t392 < (x3_1.length : Int) then ((spec_l09Sort.f k1 (x3_1.set (t392 : Int).toNat (⟨(rd_T47 x3_1 t392).f0, (rd_T47 x3_1 t392).f1, rd y398 bt401.1⟩ : S47))).bind fun t406 => (some (t406, bt401.2.1, bt401.2.2))) else (none)) else (none)) else (none)) else (none)))) else (if bt395.1 = 1 then (if 0 ≤ t392 then (if t392 < (x3_1.length : Int) then (if x3_1.length < 5864062014805 then (some ((x3_1 ++ [(⟨(rd_T47 x3_1 t392).f0, (rd_T47 x3_1 t392).f1, (rd_T47 x3_1 t392).f2⟩ : S47)]), bt395.2.1, bt395.2.2)) else (none)) else (none)) else (none)) else (if bt395.1 = 2 then (some (([] : List (S47)), bt395.2.1, bt395.2.2)) else (if bt395.1 = 3 then (if 0 ≤ (wrap64 ((x3_1.length : Int) - 1)) then (if (wrap64 ((x3_1.length : Int) - 1)) < (x3_1.length : Int) then (if x3_1.length < 5864062014805 then (some ((x3_1 ++ [(⟨0, 0, wrap64 (((rd_T47 x3_1 (wrap64 ((x3_1.length : Int) - 1))).f2) + 2)⟩ : S47)]), bt395.2.1, bt395.2.2)) else (none)) else (none)) else (none)) else (if bt395.1 = 4 then (spec_l09Draw.l1 k1 (([] : List (S47))) 0 s0_0 bt395.2.1 bt395.2.2) else (if bt395.1 = 5 then ((spec_l01Next.f s0_0 bt395.2.1 bt395.2.2 2).bind fun bt426 => (some ((([(⟨0, 0, (-60)⟩ : S47), (⟨0, 0, wrap64 (40 + bt426.1)⟩ : S47)] : List (S47))), bt426.2.1, bt426.2.2))) else (some (x3_1, bt395.2.1, bt395.2.2))))))))) = some (r1, r2, r3) := H
    have A59 := aM A590
    clear A590
    replace H := Option.bind_eq_some_iff.mp H
    obtain ⟨⟨t395, t396, t397⟩, A600, H⟩ := H
    replace H : (if t395 = 0 then ((some (([(-100), 100, 101] : List Int) : List Int)).bind fun y398 => ((spec_l01Next.f s0_0 t396 t397 3).bind fun bt401 => (if 0 ≤ bt401.1 then (if bt401.1 < (y398.length : Int) then (if 0 ≤ t392 then (if t392 < (x3_1.length : Int) then ((spec_l09Sort.f k1 (x3_1.set (t392 : Int).toNat (⟨(rd_T47 x3_1 t392).f0, (rd_T47 x3_1 t392).f1, rd y398 bt401.1⟩ : S47))).bind fun t406 => (some (t406, bt401.2.1, bt401.2.2))) else (none)) else (none)) else (none)) else (none)))) else (if t395 = 1 then (if 0 ≤ t392 then (if t392 < (x3_1.length : Int) then (if x3_1.length < 5864062014805 then (some ((x3_1 ++ [(⟨(rd_T47 x3_1 t392).f0, (rd_T47 x3_1 t392).f1, (rd_T47 x3_1 t392).f2⟩ : S47)]), t396, t397)) else (none)) else (none)) else (none)) else (if t395 = 2 then (some (([] : List (S47)), t396, t397)) else (if t395 = 3 then (if 0 ≤ (wrap64 ((x3_1.length : Int) - 1)) then (if (wrap64 ((x3_1.length : Int) - 1)) < (x3_1.length : Int) then (if x3_1.length < 5864062014805 then (some ((x3_1 ++ [(⟨0, 0, wrap64 (((rd_T47 x3_1 (wrap64 ((x3_1.length : Int) - 1))).f2) + 2)⟩ : S47)]), t396, t397)) else (none)) else (none)) else (none)) else (if t395 = 4 then (spec_l09Draw.l1 k1 (([] : List (S47))) 0 s0_0 t396 t397) else (if t395 = 5 then ((spec_l01Next.f s0_0 t396 t397 2).bind fun bt426 => (some ((([(⟨0, 0, (-60)⟩ : S47), (⟨0, 0, wrap64 (40 + bt426.1)⟩ : S47)] : List (S47))), bt426.2.1, bt426.2.2))) else (some (x3_1, t396, t397)))))))) = some (r1, r2, r3) := H
    have A60 := aM A600
    clear A600
    by_cases c61 : t395 = 0
    ·rw [if_pos c61] at H
     have c61b0 : (t395 == 0) = true := beq_iff_eq.mpr c61
     have c61b1 : (t395 != 0) = false := bne_eq_false_iff_eq.mpr c61
     clear c61
     obtain ⟨y398, hy398⟩ : ∃ y_ : List Int, y_ = (([(-100), 100, 101] : List Int)) := ⟨_, rfl⟩
     replace H : ((spec_l01Next.f s0_0 t396 t397 3).bind fun bt401 => (if 0 ≤ bt401.1 then (if bt401.1 < (y398.length : Int) then (if 0 ≤ t392 then (if t392 < (x3_1.length : Int) then ((spec_l09Sort.f k1 (x3_1.set (t392 : Int).toNat (⟨(rd_T47 x3_1 t392).f0, (rd_T47 x3_1 t392).f1, rd y398 bt401.1⟩ : S47))).bind fun t406 => (some (t406, bt401.2.1, bt401.2.2))) else (none)) else (none)) else (none)) else (none))) = some (r1, r2, r3) := zy H hy398
     have Ny398 := aM hy398
     clear hy398
     replace H := Option.bind_eq_some_iff.mp H
     obtain ⟨⟨t401, t402, t403⟩, A620, H⟩ := H
     replace H : (if 0 ≤ t401 then (if t401 < (y398.length : Int) then (if 0 ≤ t392 then (if t392 < (x3_1.length : Int) then ((spec_l09Sort.f k1 (x3_1.set (t392 : Int).toNat (⟨(rd_T47 x3_1 t392).f0, (rd_T47 x3_1 t392).f1, rd y398 t401⟩ : S47))).bind fun t406 => (some (t406, t402, t403))) else (none)) else (none)) else (none)) else (none)) = some (r1, r2, r3) := H
     have A62 := aM A620
     clear A620
     by_cases c63 : 0 ≤ t401
     rotate_left
     ·rw [if_neg c63] at H
      exact absurd H (by simp)
     rw [if_pos c63] at H
     have c63b0 : decide (0 ≤ t401) = true := decide_eq_true c63
     clear c63
     by_cases c64 : t401 < (y398.length : Int)
     rotate_left
     ·rw [if_neg c64] at H
      exact absurd H (by simp)
     rw [if_pos c64] at H
     have c64b0 : decide (t401 < (y398.length : Int)) = true := decide_eq_true c64
     clear c64
     by_cases c65 : 0 ≤ t392
     rotate_left
     ·rw [if_neg c65] at H
      exact absurd H (by simp)
     rw [if_pos c65] at H
     have c65b0 : decide (0 ≤ t392) = true := decide_eq_true c65
     clear c65
     by_cases c66 : t392 < (x3_1.length : Int)
     rotate_left
     ·rw [if_neg c66] at H
      exact absurd H (by simp)
     rw [if_pos c66] at H
     have c66b0 : decide (t392 < (x3_1.length : Int)) = true := decide_eq_true c66
     clear c66
     obtain ⟨y405, hy405⟩ : ∃ y_ : List (S47), y_ = (x3_1.set (t392 : Int).toNat (⟨(rd_T47 x3_1 t392).f0, (rd_T47 x3_1 t392).f1, rd y398 t401⟩ : S47)) := ⟨_, rfl⟩
     replace H : ((spec_l09Sort.f k1 y405).bind fun t406 => (some (t406, t402, t403))) = some (r1, r2, r3) := zy H hy405
     have Ny405 := aM hy405
     clear hy405
     replace H := Option.bind_eq_some_iff.mp H
     obtain ⟨t406, A680, H⟩ := H
     replace H : (some (t406, t402, t403)) = some (r1, r2, r3) := H
     have A68 := aM A680
     clear A680
     simp only [Option.some.injEq, Prod.mk.injEq] at H
     obtain ⟨rfl, rfl, rfl⟩ := H
     obtain ⟨Ao69, co69, eo69⟩ := Kd.R_slice HO_3.out
     subst eo69
     go_wp2_with (first | ((with_reducible refine gate_callee (f := 74) rfl ?_); refine goesL_ (some 51) rfl rfl Try.func74 (by kernel_rfl) rfl #[.pointer (some ⟨g, 0, none⟩), .int .i64 (x3_1.length : Int)] rfl zm ?_; (with_reducible refine (spec_l01Next.calls g s0_0 x1001_1 x1002_1 (x3_1.length : Int) t392 t393 t394 w0 _ ?side1 ?side2 A59.out).mono ?_); (case side1 => exact zI92 HI0.out); (case side2 => exact zs (IsS92.ge HI0.out)); rintro e w70 ⟨rfl, hi, hb, hk⟩; refine ⟨_, rfl, ?_⟩; have n0_ := aM (Kd.R_mono (Kd.R_keep (IsS92.apart (show IsS92 w0 _ g s0_0 x1001_1 x1002_1 from zI92 HI0.out) (mR_ HO_3.out) (by decide)) hk (fun _ h => h.2)) (fun _ h => h.1)); have n1_ := aM (KeepBut.trans (zK HK.out) hk (.inl rfl)); have n2_ := aM (hb); have n3_ := aM (hi); clear HO_3; clear HK; clear HB; clear HI0; have HO_3 := n0_; have HK := n1_; have HB := n2_; have HI0 := n3_; clear n0_ n1_ n2_ n3_; (try clear hb); (try clear hb2); (try clear hk); (try clear hi)) | ((with_reducible refine gate_callee (f := 74) rfl ?_); refine goesL_ (some 53) rfl rfl Try.func74 (by kernel_rfl) rfl #[.pointer (some ⟨g, 0, none⟩), .int .i64 24] rfl zm ?_; (with_reducible refine (spec_l01Next.calls g s0_0 t393 t394 24 t395 t396 t397 w0 _ ?side1 ?side2 A60.out).mono ?_); (case side1 => exact zI92 HI0.out); (case side2 => exact zs (IsS92.ge HI0.out)); rintro e w71 ⟨rfl, hi, hb, hk⟩; refine ⟨_, rfl, ?_⟩; have n0_ := aM (Kd.R_mono (Kd.R_keep (IsS92.apart (show IsS92 w0 _ g s0_0 t393 t394 from zI92 HI0.out) (mR_ HO_3.out) (by decide)) hk (fun _ h => h.2)) (fun _ h => h.1)); have n1_ := aM (KeepBut.trans (zK HK.out) hk (.inl rfl)); have n2_ := aM (hb); have n3_ := aM (hi); clear HO_3; clear HK; clear HB; clear HI0; have HO_3 := n0_; have HK := n1_; have HB := n2_; have HI0 := n3_; clear n0_ n1_ n2_ n3_; (try clear hb); (try clear hb2); (try clear hk); (try clear hi)) | ((with_reducible refine gate_dst (N := 58) rfl ?_); refine Kd.R_lit (Kd.int .i64) _ 2 ?hg (N := 58) ?hd (xs := ([(-100), 100, 101] : List Int)) (inner := [.int .i64 (-100), .int .i64 100, .int .i64 101]) (ok := fun _ => True) (okp := fun _ => True) ?hr ?hp (fun _ hk => hk) trivial (Below.refl _ _) (Nat.le_refl _) (by simp) ?_; (case hd => rfl); (case hg => rfl); (case hr => first | (go_simp; done) | (go_simp; rfl)); (case hp => exact (Reps.one (show Kd.M (Kd.int .i64) _ _ _ (-100) [.int .i64 (-100)] from rfl) (Reps.one (show Kd.M (Kd.int .i64) _ _ _ 100 [.int .i64 100] from rfl) (Reps.one (show Kd.M (Kd.int .i64) _ _ _ 101 [.int .i64 101] from rfl) (Reps.none _ _))))); intro v399 w72 ho73 hb hg_ hnew_; clear hg_ hnew_; (first | rw [← Ny398.out] at ho73 | (simp only [Int.reduceToNat] at ho73; rw [← Ny398.out] at ho73)); have n0_ := aM (Kd.R_below (mR_ HO_3.out) hb); have n1_ := aM (Kd.R_lower ho73 (keep_size (w := w) (g := g) (row := none) (zK HK.out))); have n2_ := aM (IsS92.below (zI92 HI0.out) hb); have n3_ := aM (KeepBut.trans (zK HK.out) (KeepBut.of_below hb g none) (.inl rfl)); have n4_ := aM (below_step (zs (IsS92.ge HI0.out)) hb); clear HO_3; clear HI0; clear HK; clear HB; have HO_3 := n0_; have HO400 := n1_; have HI0 := n2_; have HK := n3_; have HB := n4_; clear n0_ n1_ n2_ n3_ n4_; clear hb ho73) | ((with_reducible refine gate_callee (f := 74) rfl ?_); refine goesL_ (some 60) rfl rfl Try.func74 (by kernel_rfl) rfl #[.pointer (some ⟨g, 0, none⟩), .int .i64 3] rfl zm ?_; (with_reducible refine (spec_l01Next.calls g s0_0 t396 t397 3 t401 t402 t403 w0 _ ?side1 ?side2 A62.out).mono ?_); (case side1 => exact zI92 HI0.out); (case side2 => exact zs (IsS92.ge HI0.out)); rintro e w74 ⟨rfl, hi, hb, hk⟩; refine ⟨_, rfl, ?_⟩; have n0_ := aM (Kd.R_mono (Kd.R_keep (IsS92.apart (show IsS92 w0 _ g s0_0 t396 t397 from zI92 HI0.out) (mR_ HO_3.out) (by decide)) hk (fun _ h => h.2)) (fun _ h => h.1)); have n1_ := aM (Kd.R_mono (Kd.R_keep (IsS92.apart (show IsS92 w0 _ g s0_0 t396 t397 from zI92 HI0.out) (mR_ HO400.out) (by decide)) hk (fun _ h => h.2)) (fun _ h => h.1)); have n2_ := aM (KeepBut.trans (zK HK.out) hk (.inl rfl)); have n3_ := aM (hb); have n4_ := aM (hi); clear HO_3; clear HO400; clear HK; clear HB; clear HI0; have HO_3 := n0_; have HO400 := n1_; have HK := n2_; have HB := n3_; have HI0 := n4_; clear n0_ n1_ n2_ n3_ n4_; (try clear hb); (try clear hb2); (try clear hk); (try clear hi); obtain ⟨Ao75, co75, eo75⟩ := Kd.R_slice HO400.out; subst eo75; have p404 : 0 ≤ (t401 : Int) := of_decide_eq_true za; have q404 : t401 < (y398.length : Int) := of_decide_eq_true za; obtain ⟨ad404, e404, hx404_0⟩ := Kd.at_int (Kd.R_reads' HO400.out).2.2 t401 p404 q404; cases e404; replace p404 := eq_true p404; replace q404 := eq_true q404; have p67 : 0 ≤ (t392 : Int) := of_decide_eq_true za; have q67 : (t392 : Int) < ((x3_1.length : Int) : Int) := of_decide_eq_true za; obtain ⟨go67, co67, eo67, gb67, gl67, cl67, HG67⟩ := Kd.R_form HO_3.out (by omega); (first | cases eo67 | (injection eo67 with ea_ en_ ec_; (first | subst ea_ | (injection ea_ with ea_; subst ea_)); subst ec_; clear en_)); have GB67 := aM gb67; have GG67 := aM HG67; clear gb67 gl67 HG67; obtain ⟨ce67, hcl67, hM67, hcc67, hfr67⟩ := Kd.R_elem HO_3.out z47 (t392 : Int) p67 q67; obtain rfl := k47_openM hM67; have hx67_0 : w74.cell? ⟨go67, (t392 : Int).toNat * 3, none⟩ = some (.int .i64 ((rd_T47 x3_1 t392).f0)) := hcc67 0 _ rfl; have hx67_1 : w74.cell? ⟨go67, (t392 : Int).toNat * 3 + 1, none⟩ = some (.int .i64 ((rd_T47 x3_1 t392).f1)) := hcc67 1 _ rfl; have hx67_2 : w74.cell? ⟨go67, (t392 : Int).toNat * 3 + 2, none⟩ = some (.int .i64 ((rd_T47 x3_1 t392).f2)) := hcc67 2 _ rfl; have hf67_0 : w74.frozen? ⟨go67, (t392 : Int).toNat * 3, none⟩ = false := hfr67 0; have hf67_1 : w74.frozen? ⟨go67, (t392 : Int).toNat * 3 + 1, none⟩ = false := hfr67 1; have hf67_2 : w74.frozen? ⟨go67, (t392 : Int).toNat * 3 + 2, none⟩ = false := hfr67 2; clear hcl67 hcc67 hfr67 hM67; replace p67 := eq_true p67; replace q67 := eq_true q67; have HX76 := aM (show Kd.R k47 47 w74 w.heap.size (fun _ => True) (.slice (some ⟨go67, 0, none⟩) x3_1.length co69) x3_1 from (mR_ HO_3.out)); obtain ⟨ce76, hcl76, hM76, hcc76, hfr76⟩ := Kd.R_elem HX76.out z47 (t392 : Int) (of_decide_eq_true za) (by have h_ : (t392 : Int) < ((x3_1.length : Int) : Int) := of_decide_eq_true za; first | exact h_ | (have e_ := (Kd.R_reads' HO_3.out).1; omega) | simpa using h_); obtain rfl := k47_openM hM76; have HP76 := Kd.R_seg HX76.out (t392 : Int) (of_decide_eq_true za) (by have h_ : (t392 : Int) < ((x3_1.length : Int) : Int) := of_decide_eq_true za; first | exact h_ | (have e_ := (Kd.R_reads' HO_3.out).1; omega) | simpa using h_) (seg := [.int .i64 (rd y398 t401)]) (j := 2) hcl76 hcc76 (show 3 ≤ 3 from by decide) (x' := (⟨(rd_T47 x3_1 t392).f0, (rd_T47 x3_1 t392).f1, rd y398 t401⟩ : S47)) (k47_mkM _ _ _ (⟨(rd_T47 x3_1 t392).f0, (rd_T47 x3_1 t392).f1, rd y398 t401⟩ : S47) ) (fun _ hk => hk); have hx76_2 := hcc76 2 _ rfl; (try simp only [show (k47).sz = 3 from rfl, Nat.mul_one, Nat.add_zero] at hx76_2); have hf76_2 := hfr76 2; (try simp only [show (k47).sz = 3 from rfl, Nat.mul_one, Nat.add_zero] at hf76_2); clear hcl76 hcc76 hfr76 hM76) | ((with_reducible refine gate_store (t := 2) (p := 64) rfl ?_); refine store_event (t := 2) (p := 64) (v := ?vo_w77) (w1 := (w74.setCell ⟨go67, (t392 : Int).toNat * 3 + 2, none⟩ (.int .i64 (rd y398 t401)))) ?hg ?ho ?hn ?hr ?_; (case ho => rfl); (case hg => rfl); (case hn => rfl); (case hr => first | (go_simp; done) | (go_simp; rfl)); intro w77 hw; have hg : w74.grownBy w77 (some go67) := (by rw [hw]; exact HP76.2); have hp_ : Kd.R k47 47 w77 w.heap.size (fun _ => True) (.slice (some ⟨go67, 0, none⟩) x3_1.length co69) y405 := (by rw [hw, Ny405.out]; exact HP76.1); clear HP76; have n0_ := aM (hp_); have n1_ := aM (IsS92.grown (zI92 HI0.out) hg (IsS92.own_ne HI0.out HO_3.out (by decide))); have n2_ := aM (Kd.R_over' (v := (.slice (some ⟨go67, 0, none⟩) x3_1.length co69)) (mR_ HO400.out) (Kd.R_typed HO_3.out) (by decide) hg); have n3_ := aM ((by rw [hw]; exact below_set (HB.out) (Nat.le_trans HL.out GB67.out) : Below w0.heap.size w0 w77)); have n4_ := aM (KeepBut.trans (zK HK.out) (KeepBut.of_grown hg g) (Kd.R_base2 HO_3.out)); clear HO_3; clear HI0; clear HO400; clear HB; clear HK; have HO_3 := n0_; have HI0 := n1_; have HO400 := n2_; have HB := n3_; have HK := n4_; clear n0_ n1_ n2_ n3_ n4_; clear hg hw hp_) | ((with_reducible refine gate_callee (f := 75) rfl ?_); refine goesL_ (some 66) rfl rfl Try.func75 (by kernel_rfl) rfl #[.slice (some ⟨go67, 0, none⟩) y405.length co69] rfl (by (try simp only [mA, mB, mC]); first | done | (rw [show y405.length = x3_1.length from (Kd.R_reads' HO_3.out).1.symm] <;> rfl) | rfl | (simp only [lD, lT]; rfl)) ?_; (with_reducible refine (spec_l09Sort.calls k1 _ _ y405 t406 _ ?side1 ?side2 A68.out).mono ?_); (case side1 => repeat (first | exact (Kd.R_reads' HO_3.out).2.2 | (with_reducible refine Kd.C_alloc ?_ _) | (with_reducible refine Kd.C_drewN ?_ _) | (with_reducible refine Kd.C_drew ?_))); (case side2 => rw [show y405.length = x3_1.length from (Kd.R_reads' HO_3.out).1.symm]; exact (Kd.R_reads' HO_3.out).2.1); rintro e w78 ⟨v407, rfl, ho0, hb⟩; refine ⟨_, rfl, ?_⟩; have n0_ := aM (Kd.R_elder' (mR_ HO_3.out) (Kd.R_base ho0) hb); have n1_ := aM (Kd.R_below (mR_ HO400.out) hb); have n2_ := aM (Kd.R_lower (Kd.R_new' ho0 (Kd.R_lt (mR_ HO_3.out))) (keep_size (w := w) (g := g) (row := none) (zK HK.out))); have n3_ := aM (IsS92.below (zI92 HI0.out) hb); have n4_ := aM (KeepBut.trans (zK HK.out) (KeepBut.of_below hb g none) (.inl rfl)); have n5_ := aM (below_step (zs (IsS92.ge HI0.out)) hb); clear HO_3; clear HO400; clear HI0; clear HK; clear HB; have HO_3 := n0_; have HO400 := n1_; have HO408 := n2_; have HI0 := n3_; have HK := n4_; have HB := n5_; clear n0_ n1_ n2_ n3_ n4_ n5_; (try clear hb); (try clear hb2); (try clear hk); (try clear hi); (try clear ho0)))
     go_ret
     exact ⟨_, zw, by (with_reducible repeat (first | apply Kd.R_alloc | apply Kd.R_drewN | apply Kd.R_drew)); exact Kd.R_mono HO408.out (fun _ hk => trivial), zI92 HI0.out, zs (IsS92.ge HI0.out), zK HK.out⟩
    rw [if_neg c61] at H
    have c61b0 : (t395 == 0) = false := beq_eq_false_iff_ne.mpr c61
    have c61b1 : (t395 != 0) = true := bne_iff_ne.mpr c61
    by_cases c79 : t395 = 1
    ·rw [if_pos c79] at H
     have c79b0 : (t395 == 1) = true := beq_iff_eq.mpr c79
     have c79b1 : (t395 != 1) = false := bne_eq_false_iff_eq.mpr c79
     clear c79
     by_cases c80 : 0 ≤ t392
     rotate_left
     ·rw [if_neg c80] at H
      exact absurd H (by simp)
     rw [if_pos c80] at H
     have c80b0 : decide (0 ≤ t392) = true := decide_eq_true c80
     clear c80
     by_cases c81 : t392 < (x3_1.length : Int)
     rotate_left
     ·rw [if_neg c81] at H
      exact absurd H (by simp)
     rw [if_pos c81] at H
     have c81b0 : decide (t392 < (x3_1.length : Int)) = true := decide_eq_true c81
     clear c81
     by_cases c82 : x3_1.length < 5864062014805
     rotate_left
     ·rw [if_neg c82] at H
      exact absurd H (by simp)
     rw [if_pos c82] at H
     have LMc82 := aM c82
     clear c82
     obtain ⟨y410, hy410⟩ : ∃ y_ : List (S47), y_ = (x3_1 ++ [(⟨(rd_T47 x3_1 t392).f0, (rd_T47 x3_1 t392).f1, (rd_T47 x3_1 t392).f2⟩ : S47)]) := ⟨_, rfl⟩
     replace H : (some (y410, t396, t397)) = some (r1, r2, r3) := zy H hy410
     have Ny410 := aM hy410
     clear hy410
     simp only [Option.some.injEq, Prod.mk.injEq] at H
     obtain ⟨rfl, rfl, rfl⟩ := H
     obtain ⟨Ao83, co83, eo83⟩ := Kd.R_slice HO_3.out
     subst eo83
     go_wp2_with (first | ((with_reducible refine gate_callee (f := 74) rfl ?_); refine goesL_ (some 51) rfl rfl Try.func74 (by kernel_rfl) rfl #[.pointer (some ⟨g, 0, none⟩), .int .i64 (x3_1.length : Int)] rfl zm ?_; (with_reducible refine (spec_l01Next.calls g s0_0 x1001_1 x1002_1 (x3_1.length : Int) t392 t393 t394 w0 _ ?side1 ?side2 A59.out).mono ?_); (case side1 => exact zI92 HI0.out); (case side2 => exact zs (IsS92.ge HI0.out)); rintro e w84 ⟨rfl, hi, hb, hk⟩; refine ⟨_, rfl, ?_⟩; have n0_ := aM (Kd.R_mono (Kd.R_keep (IsS92.apart (show IsS92 w0 _ g s0_0 x1001_1 x1002_1 from zI92 HI0.out) (mR_ HO_3.out) (by decide)) hk (fun _ h => h.2)) (fun _ h => h.1)); have n1_ := aM (KeepBut.trans (zK HK.out) hk (.inl rfl)); have n2_ := aM (hb); have n3_ := aM (hi); clear HO_3; clear HK; clear HB; clear HI0; have HO_3 := n0_; have HK := n1_; have HB := n2_; have HI0 := n3_; clear n0_ n1_ n2_ n3_; (try clear hb); (try clear hb2); (try clear hk); (try clear hi)) | ((with_reducible refine gate_callee (f := 74) rfl ?_); refine goesL_ (some 53) rfl rfl Try.func74 (by kernel_rfl) rfl #[.pointer (some ⟨g, 0, none⟩), .int .i64 24] rfl zm ?_; (with_reducible refine (spec_l01Next.calls g s0_0 t393 t394 24 t395 t396 t397 w0 _ ?side1 ?side2 A60.out).mono ?_); (case side1 => exact zI92 HI0.out); (case side2 => exact zs (IsS92.ge HI0.out)); rintro e w85 ⟨rfl, hi, hb, hk⟩; refine ⟨_, rfl, ?_⟩; have n0_ := aM (Kd.R_mono (Kd.R_keep (IsS92.apart (show IsS92 w0 _ g s0_0 t393 t394 from zI92 HI0.out) (mR_ HO_3.out) (by decide)) hk (fun _ h => h.2)) (fun _ h => h.1)); have n1_ := aM (KeepBut.trans (zK HK.out) hk (.inl rfl)); have n2_ := aM (hb); have n3_ := aM (hi); clear HO_3; clear HK; clear HB; clear HI0; have HO_3 := n0_; have HK := n1_; have HB := n2_; have HI0 := n3_; clear n0_ n1_ n2_ n3_; (try clear hb); (try clear hb2); (try clear hk); (try clear hi); have p409 : 0 ≤ (t392 : Int) := of_decide_eq_true za; have q409 : t392 < (x3_1.length : Int) := of_decide_eq_true za; obtain ⟨ad409, e409, hx409_0, hx409_1, hx409_2⟩ := at_T47 (Kd.R_reads' HO_3.out).2.2 t392 p409 q409; cases e409; replace p409 := eq_true p409; replace q409 := eq_true q409) | ((with_reducible refine gate_builtin (b := .append) (xs := #[.tmp 69, .tmp 74]) rfl ?_); at_builtin; refine Kd.R_append k47 w.heap.size rfl (.tmp 69) (.tmp 74) 35 47 (.agg #[(.int .i64 0), (.int .i64 0), (.int .i64 0)]) 24 rfl Try.underlying35 info47 rfl (by decide) (by omega) (.slice (some ad409) x3_1.length co83) x3_1 (⟨(rd_T47 x3_1 t392).f0, (rd_T47 x3_1 t392).f1, (rd_T47 x3_1 t392).f2⟩ : S47) [.int .i64 ((rd_T47 x3_1 t392).f0), .int .i64 ((rd_T47 x3_1 t392).f1), .int .i64 ((rd_T47 x3_1 t392).f2)] (fun _ => True) (fun _ => False) rfl rfl ?aP (fun _ hk => hk.elim) ?aF ?aO (Below.refl _ _) ?aS ?aL ?_; (case aP => exact k47_mkM _ _ _ (⟨(rd_T47 x3_1 t392).f0, (rd_T47 x3_1 t392).f1, (rd_T47 x3_1 t392).f2⟩ : S47)); (case aF => exact (fun _ _ => trivial)); (case aO => exact (mR_ HO_3.out)); (case aS => exact (keep_size (w := w) (g := g) (row := none) (zK HK.out))); (case aL => have := LMc82.out; omega); intro v411 w86 ho hb hg hat; rw [← Ny410.out] at ho; have n0_ := aM (IsS92.grown (zI92 HI0.out) hg (IsS92.own_ne HI0.out HO_3.out (by decide))); have n1_ := aM (below_weaken (zs (IsS92.ge HI0.out)) HL.out hb); have n2_ := aM (KeepBut.trans (zK HK.out) (KeepBut.of_grown hg g) (Kd.R_base2 HO_3.out)); have n3_ := aM (ho); clear HI0; clear HB; clear HK; clear HO_3; have HI0 := n0_; have HB := n1_; have HK := n2_; have HO412 := n3_; clear n0_ n1_ n2_ n3_; clear ho hb hg hat))
     go_ret
     exact ⟨_, zw, mR_ HO412.out, zI92 HI0.out, zs (IsS92.ge HI0.out), zK HK.out⟩
    rw [if_neg c79] at H
    have c79b0 : (t395 == 1) = false := beq_eq_false_iff_ne.mpr c79
    have c79b1 : (t395 != 1) = true := bne_iff_ne.mpr c79
    by_cases c87 : t395 = 2
    ·rw [if_pos c87] at H
     have c87b0 : (t395 == 2) = true := beq_iff_eq.mpr c87
     have c87b1 : (t395 != 2) = false := bne_eq_false_iff_eq.mpr c87
     clear c87
     simp only [Option.some.injEq, Prod.mk.injEq] at H
     obtain ⟨rfl, rfl, rfl⟩ := H
     obtain ⟨Ao88, co88, eo88⟩ := Kd.R_slice HO_3.out
     subst eo88
     go_wp2_with (first | ((with_reducible refine gate_callee (f := 74) rfl ?_); refine goesL_ (some 51) rfl rfl Try.func74 (by kernel_rfl) rfl #[.pointer (some ⟨g, 0, none⟩), .int .i64 (x3_1.length : Int)] rfl zm ?_; (with_reducible refine (spec_l01Next.calls g s0_0 x1001_1 x1002_1 (x3_1.length : Int) t392 t393 t394 w0 _ ?side1 ?side2 A59.out).mono ?_); (case side1 => exact zI92 HI0.out); (case side2 => exact zs (IsS92.ge HI0.out)); rintro e w89 ⟨rfl, hi, hb, hk⟩; refine ⟨_, rfl, ?_⟩; have n0_ := aM (Kd.R_mono (Kd.R_keep (IsS92.apart (show IsS92 w0 _ g s0_0 x1001_1 x1002_1 from zI92 HI0.out) (mR_ HO_3.out) (by decide)) hk (fun _ h => h.2)) (fun _ h => h.1)); have n1_ := aM (KeepBut.trans (zK HK.out) hk (.inl rfl)); have n2_ := aM (hb); have n3_ := aM (hi); clear HO_3; clear HK; clear HB; clear HI0; have HO_3 := n0_; have HK := n1_; have HB := n2_; have HI0 := n3_; clear n0_ n1_ n2_ n3_; (try clear hb); (try clear hb2); (try clear hk); (try clear hi)) | ((with_reducible refine gate_callee (f := 74) rfl ?_); refine goesL_ (some 53) rfl rfl Try.func74 (by kernel_rfl) rfl #[.pointer (some ⟨g, 0, none⟩), .int .i64 24] rfl zm ?_; (with_reducible refine (spec_l01Next.calls g s0_0 t393 t394 24 t395 t396 t397 w0 _ ?side1 ?side2 A60.out).mono ?_); (case side1 => exact zI92 HI0.out); (case side2 => exact zs (IsS92.ge HI0.out)); rintro e w90 ⟨rfl, hi, hb, hk⟩; refine ⟨_, rfl, ?_⟩; have n0_ := aM (Kd.R_mono (Kd.R_keep (IsS92.apart (show IsS92 w0 _ g s0_0 t393 t394 from zI92 HI0.out) (mR_ HO_3.out) (by decide)) hk (fun _ h => h.2)) (fun _ h => h.1)); have n1_ := aM (KeepBut.trans (zK HK.out) hk (.inl rfl)); have n2_ := aM (hb); have n3_ := aM (hi); clear HO_3; clear HK; clear HB; clear HI0; have HO_3 := n0_; have HK := n1_; have HB := n2_; have HI0 := n3_; clear n0_ n1_ n2_ n3_; (try clear hb); (try clear hb2); (try clear hk); (try clear hi)))
     go_ret
     exact ⟨_, zw, by first | exact Kd.R_nil _ _ _ _ _ | exact Kd.N_nil _ _ _ _ _ | exact Kd.V_nil _ _ _ _ _ | exact Kd.Q_nil _ _ _ _ _ | exact Kd.S_nil _ _ _ _ _, zI92 HI0.out, zs (IsS92.ge HI0.out), zK HK.out⟩
    rw [if_neg c87] at H
    have c87b0 : (t395 == 2) = false := beq_eq_false_iff_ne.mpr c87
    have c87b1 : (t395 != 2) = true := bne_iff_ne.mpr c87
    by_cases c91 : t395 = 3
    ·rw [if_pos c91] at H
     have c91b0 : (t395 == 3) = true := beq_iff_eq.mpr c91
     have c91b1 : (t395 != 3) = false := bne_eq_false_iff_eq.mpr c91
     clear c91
     obtain ⟨ji92, hji92⟩ : ∃ j_ : Int, (wrap64 ((x3_1.length : Int) - 1)) = j_ := ⟨_, rfl⟩
     replace H : (if 0 ≤ (ji92) then (if (ji92) < (x3_1.length : Int) then (if x3_1.length < 5864062014805 then (some ((x3_1 ++ [(⟨0, 0, wrap64 (((rd_T47 x3_1 (ji92)).f2) + 2)⟩ : S47)]), t396, t397)) else (none)) else (none)) else (none)) = some (r1, r2, r3) := by first | (rw [hji92] at H; exact H) | (simp only [hji92] at H ⊢; exact H)
     (try rw [hji92] at A59)
     (try rw [hji92] at A60)
     have hji92w : (IntKind.i64.wrap ((x3_1.length : Int) - 1)) = ji92 := (i64_w _).trans hji92
     by_cases c93 : 0 ≤ (ji92)
     rotate_left
     ·rw [if_neg c93] at H
      exact absurd H (by simp)
     rw [if_pos c93] at H
     have c93b0 : decide (0 ≤ (ji92)) = true := decide_eq_true c93
     clear c93
     by_cases c94 : (ji92) < (x3_1.length : Int)
     rotate_left
     ·rw [if_neg c94] at H
      exact absurd H (by simp)
     rw [if_pos c94] at H
     have c94b0 : decide ((ji92) < (x3_1.length : Int)) = true := decide_eq_true c94
     clear c94
     by_cases c95 : x3_1.length < 5864062014805
     rotate_left
     ·rw [if_neg c95] at H
      exact absurd H (by simp)
     rw [if_pos c95] at H
     have LMc95 := aM c95
     clear c95
     obtain ⟨y414, hy414⟩ : ∃ y_ : List (S47), y_ = (x3_1 ++ [(⟨0, 0, wrap64 (((rd_T47 x3_1 (ji92)).f2) + 2)⟩ : S47)]) := ⟨_, rfl⟩
     replace H : (some (y414, t396, t397)) = some (r1, r2, r3) := zy H hy414
     have Ny414 := aM hy414
     clear hy414
     simp only [Option.some.injEq, Prod.mk.injEq] at H
     obtain ⟨rfl, rfl, rfl⟩ := H
     obtain ⟨Ao96, co96, eo96⟩ := Kd.R_slice HO_3.out
     subst eo96
     go_wp2_with (first | ((with_reducible refine gate_callee (f := 74) rfl ?_); refine goesL_ (some 51) rfl rfl Try.func74 (by kernel_rfl) rfl #[.pointer (some ⟨g, 0, none⟩), .int .i64 (x3_1.length : Int)] rfl zm ?_; (with_reducible refine (spec_l01Next.calls g s0_0 x1001_1 x1002_1 (x3_1.length : Int) t392 t393 t394 w0 _ ?side1 ?side2 A59.out).mono ?_); (case side1 => exact zI92 HI0.out); (case side2 => exact zs (IsS92.ge HI0.out)); rintro e w97 ⟨rfl, hi, hb, hk⟩; refine ⟨_, rfl, ?_⟩; have n0_ := aM (Kd.R_mono (Kd.R_keep (IsS92.apart (show IsS92 w0 _ g s0_0 x1001_1 x1002_1 from zI92 HI0.out) (mR_ HO_3.out) (by decide)) hk (fun _ h => h.2)) (fun _ h => h.1)); have n1_ := aM (KeepBut.trans (zK HK.out) hk (.inl rfl)); have n2_ := aM (hb); have n3_ := aM (hi); clear HO_3; clear HK; clear HB; clear HI0; have HO_3 := n0_; have HK := n1_; have HB := n2_; have HI0 := n3_; clear n0_ n1_ n2_ n3_; (try clear hb); (try clear hb2); (try clear hk); (try clear hi)) | ((with_reducible refine gate_callee (f := 74) rfl ?_); refine goesL_ (some 53) rfl rfl Try.func74 (by kernel_rfl) rfl #[.pointer (some ⟨g, 0, none⟩), .int .i64 24] rfl zm ?_; (with_reducible refine (spec_l01Next.calls g s0_0 t393 t394 24 t395 t396 t397 w0 _ ?side1 ?side2 A60.out).mono ?_); (case side1 => exact zI92 HI0.out); (case side2 => exact zs (IsS92.ge HI0.out)); rintro e w98 ⟨rfl, hi, hb, hk⟩; refine ⟨_, rfl, ?_⟩; have n0_ := aM (Kd.R_mono (Kd.R_keep (IsS92.apart (show IsS92 w0 _ g s0_0 t393 t394 from zI92 HI0.out) (mR_ HO_3.out) (by decide)) hk (fun _ h => h.2)) (fun _ h => h.1)); have n1_ := aM (KeepBut.trans (zK HK.out) hk (.inl rfl)); have n2_ := aM (hb); have n3_ := aM (hi); clear HO_3; clear HK; clear HB; clear HI0; have HO_3 := n0_; have HK := n1_; have HB := n2_; have HI0 := n3_; clear n0_ n1_ n2_ n3_; (try clear hb); (try clear hb2); (try clear hk); (try clear hi); have p413 : 0 ≤ ((ji92) : Int) := of_decide_eq_true za; have q413 : (ji92) < (x3_1.length : Int) := of_decide_eq_true za; obtain ⟨ad413, e413, hx413_0, hx413_1, hx413_2⟩ := at_T47 (Kd.R_reads' HO_3.out).2.2 (ji92) p413 q413; cases e413; replace p413 := eq_true p413; replace q413 := eq_true q413) | ((with_reducible refine gate_builtin (b := .append) (xs := #[.tmp 80, .tmp 90]) rfl ?_); at_builtin; refine Kd.R_append k47 w.heap.size rfl (.tmp 80) (.tmp 90) 35 47 (.agg #[(.int .i64 0), (.int .i64 0), (.int .i64 0)]) 24 rfl Try.underlying35 info47 rfl (by decide) (by omega) (.slice (some ad413) x3_1.length co96) x3_1 (⟨0, 0, wrap64 (((rd_T47 x3_1 (ji92)).f2) + 2)⟩ : S47) [.int .i64 0, .int .i64 0, .int .i64 (wrap64 (((rd_T47 x3_1 (ji92)).f2) + 2))] (fun _ => True) (fun _ => False) rfl rfl ?aP (fun _ hk => hk.elim) ?aF ?aO (Below.refl _ _) ?aS ?aL ?_; (case aP => exact k47_mkM _ _ _ (⟨0, 0, wrap64 (((rd_T47 x3_1 (ji92)).f2) + 2)⟩ : S47)); (case aF => exact (fun _ _ => trivial)); (case aO => exact (mR_ HO_3.out)); (case aS => exact (keep_size (w := w) (g := g) (row := none) (zK HK.out))); (case aL => have := LMc95.out; omega); intro v415 w99 ho hb hg hat; rw [← Ny414.out] at ho; have n0_ := aM (IsS92.grown (zI92 HI0.out) hg (IsS92.own_ne HI0.out HO_3.out (by decide))); have n1_ := aM (below_weaken (zs (IsS92.ge HI0.out)) HL.out hb); have n2_ := aM (KeepBut.trans (zK HK.out) (KeepBut.of_grown hg g) (Kd.R_base2 HO_3.out)); have n3_ := aM (ho); clear HI0; clear HB; clear HK; clear HO_3; have HI0 := n0_; have HB := n1_; have HK := n2_; have HO416 := n3_; clear n0_ n1_ n2_ n3_; clear ho hb hg hat))
     go_ret
     exact ⟨_, by first | rfl | (simp [errW_none, errW_some] <;> rfl) | (simp only [← hji92]; first | rfl | (simp [errW_none, errW_some] <;> rfl)) | (simp [*, errW_none, errW_some] <;> rfl), mR_ HO416.out, zI92 HI0.out, zs (IsS92.ge HI0.out), zK HK.out⟩
    rw [if_neg c91] at H
    have c91b0 : (t395 == 3) = false := beq_eq_false_iff_ne.mpr c91
    have c91b1 : (t395 != 3) = true := bne_iff_ne.mpr c91
    by_cases c100 : t395 = 4
    rotate_left
    ·rw [if_neg c100] at H
     have c100b0 : (t395 == 4) = false := beq_eq_false_iff_ne.mpr c100
     have c100b1 : (t395 != 4) = true := bne_iff_ne.mpr c100
     by_cases c112 : t395 = 5
     rotate_left
     ·rw [if_neg c112] at H
      have c112b0 : (t395 == 5) = false := beq_eq_false_iff_ne.mpr c112
      have c112b1 : (t395 != 5) = true := bne_iff_ne.mpr c112
      simp only [Option.some.injEq, Prod.mk.injEq] at H
      obtain ⟨rfl, rfl, rfl⟩ := H
      obtain ⟨Ao120, co120, eo120⟩ := Kd.R_slice HO_3.out
      subst eo120
      go_wp2_with (first | ((with_reducible refine gate_callee (f := 74) rfl ?_); refine goesL_ (some 51) rfl rfl Try.func74 (by kernel_rfl) rfl #[.pointer (some ⟨g, 0, none⟩), .int .i64 (x3_1.length : Int)] rfl zm ?_; (with_reducible refine (spec_l01Next.calls g s0_0 x1001_1 x1002_1 (x3_1.length : Int) t392 t393 t394 w0 _ ?side1 ?side2 A59.out).mono ?_); (case side1 => exact zI92 HI0.out); (case side2 => exact zs (IsS92.ge HI0.out)); rintro e w121 ⟨rfl, hi, hb, hk⟩; refine ⟨_, rfl, ?_⟩; have n0_ := aM (Kd.R_mono (Kd.R_keep (IsS92.apart (show IsS92 w0 _ g s0_0 x1001_1 x1002_1 from zI92 HI0.out) (mR_ HO_3.out) (by decide)) hk (fun _ h => h.2)) (fun _ h => h.1)); have n1_ := aM (KeepBut.trans (zK HK.out) hk (.inl rfl)); have n2_ := aM (hb); have n3_ := aM (hi); clear HO_3; clear HK; clear HB; clear HI0; have HO_3 := n0_; have HK := n1_; have HB := n2_; have HI0 := n3_; clear n0_ n1_ n2_ n3_; (try clear hb); (try clear hb2); (try clear hk); (try clear hi)) | ((with_reducible refine gate_callee (f := 74) rfl ?_); refine goesL_ (some 53) rfl rfl Try.func74 (by kernel_rfl) rfl #[.pointer (some ⟨g, 0, none⟩), .int .i64 24] rfl zm ?_; (with_reducible refine (spec_l01Next.calls g s0_0 t393 t394 24 t395 t396 t397 w0 _ ?side1 ?side2 A60.out).mono ?_); (case side1 => exact zI92 HI0.out); (case side2 => exact zs (IsS92.ge HI0.out)); rintro e w122 ⟨rfl, hi, hb, hk⟩; refine ⟨_, rfl, ?_⟩; have n0_ := aM (Kd.R_mono (Kd.R_keep (IsS92.apart (show IsS92 w0 _ g s0_0 t393 t394 from zI92 HI0.out) (mR_ HO_3.out) (by decide)) hk (fun _ h => h.2)) (fun _ h => h.1)); have n1_ := aM (KeepBut.trans (zK HK.out) hk (.inl rfl)); have n2_ := aM (hb); have n3_ := aM (hi); clear HO_3; clear HK; clear HB; clear HI0; have HO_3 := n0_; have HK := n1_; have HB := n2_; have HI0 := n3_; clear n0_ n1_ n2_ n3_; (try clear hb); (try clear hb2); (try clear hk); (try clear hi)))
      go_ret
      exact ⟨_, zw, mR_ HO_3.out, zI92 HI0.out, zs (IsS92.ge HI0.out), zK HK.out⟩
     rw [if_pos c112] at H
     have c112b0 : (t395 == 5) = true := beq_iff_eq.mpr c112
     have c112b1 : (t395 != 5) = false := bne_eq_false_iff_eq.mpr c112
     clear c112
     replace H := Option.bind_eq_some_iff.mp H
     obtain ⟨⟨t426, t427, t428⟩, A1130, H⟩ := H
     replace H : (some ((([(⟨0, 0, (-60)⟩ : S47), (⟨0, 0, wrap64 (40 + t426)⟩ : S47)] : List (S47))), t427, t428)) = some (r1, r2, r3) := H
     have A113 := aM A1130
     clear A1130
     obtain ⟨y429, hy429⟩ : ∃ y_ : List (S47), y_ = (([(⟨0, 0, (-60)⟩ : S47), (⟨0, 0, wrap64 (40 + t426)⟩ : S47)] : List (S47))) := ⟨_, rfl⟩
     replace H : (some (y429, t427, t428)) = some (r1, r2, r3) := zy H hy429
     have Ny429 := aM hy429
     clear hy429
     simp only [Option.some.injEq, Prod.mk.injEq] at H
     obtain ⟨rfl, rfl, rfl⟩ := H
     obtain ⟨Ao114, co114, eo114⟩ := Kd.R_slice HO_3.out
     subst eo114
     go_wp2_with (first | ((with_reducible refine gate_callee (f := 74) rfl ?_); refine goesL_ (some 51) rfl rfl Try.func74 (by kernel_rfl) rfl #[.pointer (some ⟨g, 0, none⟩), .int .i64 (x3_1.length : Int)] rfl zm ?_; (with_reducible refine (spec_l01Next.calls g s0_0 x1001_1 x1002_1 (x3_1.length : Int) t392 t393 t394 w0 _ ?side1 ?side2 A59.out).mono ?_); (case side1 => exact zI92 HI0.out); (case side2 => exact zs (IsS92.ge HI0.out)); rintro e w115 ⟨rfl, hi, hb, hk⟩; refine ⟨_, rfl, ?_⟩; have n0_ := aM (Kd.R_mono (Kd.R_keep (IsS92.apart (show IsS92 w0 _ g s0_0 x1001_1 x1002_1 from zI92 HI0.out) (mR_ HO_3.out) (by decide)) hk (fun _ h => h.2)) (fun _ h => h.1)); have n1_ := aM (KeepBut.trans (zK HK.out) hk (.inl rfl)); have n2_ := aM (hb); have n3_ := aM (hi); clear HO_3; clear HK; clear HB; clear HI0; have HO_3 := n0_; have HK := n1_; have HB := n2_; have HI0 := n3_; clear n0_ n1_ n2_ n3_; (try clear hb); (try clear hb2); (try clear hk); (try clear hi)) | ((with_reducible refine gate_callee (f := 74) rfl ?_); refine goesL_ (some 53) rfl rfl Try.func74 (by kernel_rfl) rfl #[.pointer (some ⟨g, 0, none⟩), .int .i64 24] rfl zm ?_; (with_reducible refine (spec_l01Next.calls g s0_0 t393 t394 24 t395 t396 t397 w0 _ ?side1 ?side2 A60.out).mono ?_); (case side1 => exact zI92 HI0.out); (case side2 => exact zs (IsS92.ge HI0.out)); rintro e w116 ⟨rfl, hi, hb, hk⟩; refine ⟨_, rfl, ?_⟩; have n0_ := aM (Kd.R_mono (Kd.R_keep (IsS92.apart (show IsS92 w0 _ g s0_0 t393 t394 from zI92 HI0.out) (mR_ HO_3.out) (by decide)) hk (fun _ h => h.2)) (fun _ h => h.1)); have n1_ := aM (KeepBut.trans (zK HK.out) hk (.inl rfl)); have n2_ := aM (hb); have n3_ := aM (hi); clear HO_3; clear HK; clear HB; clear HI0; have HO_3 := n0_; have HK := n1_; have HB := n2_; have HI0 := n3_; clear n0_ n1_ n2_ n3_; (try clear hb); (try clear hb2); (try clear hk); (try clear hi)) | ((with_reducible refine gate_callee (f := 74) rfl ?_); refine goesL_ (some 115) rfl rfl Try.func74 (by kernel_rfl) rfl #[.pointer (some ⟨g, 0, none⟩), .int .i64 2] rfl zm ?_; (with_reducible refine (spec_l01Next.calls g s0_0 t396 t397 2 t426 t427 t428 w0 _ ?side1 ?side2 A113.out).mono ?_); (case side1 => exact zI92 HI0.out); (case side2 => exact zs (IsS92.ge HI0.out)); rintro e w117 ⟨rfl, hi, hb, hk⟩; refine ⟨_, rfl, ?_⟩; have n0_ := aM (Kd.R_mono (Kd.R_keep (IsS92.apart (show IsS92 w0 _ g s0_0 t396 t397 from zI92 HI0.out) (mR_ HO_3.out) (by decide)) hk (fun _ h => h.2)) (fun _ h => h.1)); have n1_ := aM (KeepBut.trans (zK HK.out) hk (.inl rfl)); have n2_ := aM (hb); have n3_ := aM (hi); clear HO_3; clear HK; clear HB; clear HI0; have HO_3 := n0_; have HK := n1_; have HB := n2_; have HI0 := n3_; clear n0_ n1_ n2_ n3_; (try clear hb); (try clear hb2); (try clear hk); (try clear hi)) | ((with_reducible refine gate_dst (N := 118) rfl ?_); refine Kd.R_lit k47 _ 47 ?hg (N := 118) ?hd (xs := ([(⟨0, 0, (-60)⟩ : S47), (⟨0, 0, wrap64 (40 + t426)⟩ : S47)] : List (S47))) (inner := [.int .i64 0, .int .i64 0, .int .i64 (-60), .int .i64 0, .int .i64 0, .int .i64 (wrap64 (40 + t426))]) (ok := fun _ => True) (okp := fun _ => True) ?hr ?hp (fun _ hk => hk) trivial (Below.refl _ _) (Nat.le_refl _) (by simp) ?_; (case hd => rfl); (case hg => rfl); (case hr => first | (go_simp; done) | (go_simp; rfl)); (case hp => exact (Reps.c3 (show Kd.M k47 _ _ _ (⟨0, 0, (-60)⟩ : S47) [.int .i64 0, .int .i64 0, .int .i64 (-60)] from (k47_mkM _ _ _ (⟨0, 0, (-60)⟩ : S47) )) (Reps.c3 (show Kd.M k47 _ _ _ (⟨0, 0, wrap64 (40 + t426)⟩ : S47) [.int .i64 0, .int .i64 0, .int .i64 (wrap64 (40 + t426))] from (k47_mkM _ _ _ (⟨0, 0, wrap64 (40 + t426)⟩ : S47) )) (Reps.none _ _)))); intro v430 w118 ho119 hb hg_ hnew_; clear hg_ hnew_; (first | rw [← Ny429.out] at ho119 | (simp only [Int.reduceToNat] at ho119; rw [← Ny429.out] at ho119)); have n0_ := aM (Kd.R_elder' (mR_ HO_3.out) (Kd.R_base ho119) hb); have n1_ := aM (Kd.R_lower (Kd.R_new' ho119 (Kd.R_lt (mR_ HO_3.out))) (keep_size (w := w) (g := g) (row := none) (zK HK.out))); have n2_ := aM (IsS92.below (zI92 HI0.out) hb); have n3_ := aM (KeepBut.trans (zK HK.out) (KeepBut.of_below hb g none) (.inl rfl)); have n4_ := aM (below_step (zs (IsS92.ge HI0.out)) hb); clear HO_3; clear HI0; clear HK; clear HB; have HO_3 := n0_; have HO431 := n1_; have HI0 := n2_; have HK := n3_; have HB := n4_; clear n0_ n1_ n2_ n3_ n4_; clear hb ho119))
     go_ret
     exact ⟨_, zw, by (with_reducible repeat (first | apply Kd.R_alloc | apply Kd.R_drewN | apply Kd.R_drew)); exact Kd.R_mono HO431.out (fun _ hk => trivial), zI92 HI0.out, zs (IsS92.ge HI0.out), zK HK.out⟩
    rw [if_pos c100] at H
    have c100b0 : (t395 == 4) = true := beq_iff_eq.mpr c100
    have c100b1 : (t395 != 4) = false := bne_eq_false_iff_eq.mpr c100
    clear c100
    obtain ⟨y417, hy417⟩ : ∃ y_ : List (S47), y_ = (([] : List (S47))) := ⟨_, rfl⟩
    replace H : (spec_l09Draw.l1 k1 y417 0 s0_0 t396 t397) = some (r1, r2, r3) := zy H hy417
    have Ny417 := aM hy417
    clear hy417
    have H' := aM H
    clear H
    obtain ⟨Ao101, co101, eo101⟩ := Kd.R_slice HO_3.out
    subst eo101
    go_wp2_with (first | ((with_reducible refine gate_callee (f := 74) rfl ?_); refine goesL_ (some 51) rfl rfl Try.func74 (by kernel_rfl) rfl #[.pointer (some ⟨g, 0, none⟩), .int .i64 (x3_1.length : Int)] rfl zm ?_; (with_reducible refine (spec_l01Next.calls g s0_0 x1001_1 x1002_1 (x3_1.length : Int) t392 t393 t394 w0 _ ?side1 ?side2 A59.out).mono ?_); (case side1 => exact zI92 HI0.out); (case side2 => exact zs (IsS92.ge HI0.out)); rintro e w102 ⟨rfl, hi, hb, hk⟩; refine ⟨_, rfl, ?_⟩; have n0_ := aM (Kd.R_mono (Kd.R_keep (IsS92.apart (show IsS92 w0 _ g s0_0 x1001_1 x1002_1 from zI92 HI0.out) (mR_ HO_3.out) (by decide)) hk (fun _ h => h.2)) (fun _ h => h.1)); have n1_ := aM (KeepBut.trans (zK HK.out) hk (.inl rfl)); have n2_ := aM (hb); have n3_ := aM (hi); clear HO_3; clear HK; clear HB; clear HI0; have HO_3 := n0_; have HK := n1_; have HB := n2_; have HI0 := n3_; clear n0_ n1_ n2_ n3_; (try clear hb); (try clear hb2); (try clear hk); (try clear hi)) | ((with_reducible refine gate_callee (f := 74) rfl ?_); refine goesL_ (some 53) rfl rfl Try.func74 (by kernel_rfl) rfl #[.pointer (some ⟨g, 0, none⟩), .int .i64 24] rfl zm ?_; (with_reducible refine (spec_l01Next.calls g s0_0 t393 t394 24 t395 t396 t397 w0 _ ?side1 ?side2 A60.out).mono ?_); (case side1 => exact zI92 HI0.out); (case side2 => exact zs (IsS92.ge HI0.out)); rintro e w103 ⟨rfl, hi, hb, hk⟩; refine ⟨_, rfl, ?_⟩; have n0_ := aM (Kd.R_mono (Kd.R_keep (IsS92.apart (show IsS92 w0 _ g s0_0 t393 t394 from zI92 HI0.out) (mR_ HO_3.out) (by decide)) hk (fun _ h => h.2)) (fun _ h => h.1)); have n1_ := aM (KeepBut.trans (zK HK.out) hk (.inl rfl)); have n2_ := aM (hb); have n3_ := aM (hi); clear HO_3; clear HK; clear HB; clear HI0; have HO_3 := n0_; have HK := n1_; have HB := n2_; have HI0 := n3_; clear n0_ n1_ n2_ n3_; (try clear hb); (try clear hb2); (try clear hk); (try clear hi)) | ((with_reducible refine gate_dst (N := 94) rfl ?_); refine Kd.R_lit k47 _ 47 ?hg (N := 94) ?hd (xs := ([] : List (S47))) (inner := []) (ok := fun _ => True) (okp := fun _ => True) ?hr ?hp (fun _ hk => hk) trivial (Below.refl _ _) (Nat.le_refl _) (by simp) ?_; (case hd => rfl); (case hg => rfl); (case hr => first | (go_simp; done) | (go_simp; rfl)); (case hp => exact (Reps.none _ _)); intro v418 w104 ho105 hb hg_ hnew_; clear hg_ hnew_; (first | rw [← Ny417.out] at ho105 | (simp only [Int.reduceToNat] at ho105; rw [← Ny417.out] at ho105)); have n0_ := aM (Kd.R_elder' (mR_ HO_3.out) (Kd.R_base ho105) hb); have n1_ := aM (Kd.R_lower (Kd.R_new' ho105 (Kd.R_lt (mR_ HO_3.out))) (keep_size (w := w) (g := g) (row := none) (zK HK.out))); have n2_ := aM (IsS92.below (zI92 HI0.out) hb); have n3_ := aM (KeepBut.trans (zK HK.out) (KeepBut.of_below hb g none) (.inl rfl)); have n4_ := aM (below_step (zs (IsS92.ge HI0.out)) hb); clear HO_3; clear HI0; clear HK; clear HB; have HO_3 := n0_; have HO419 := n1_; have HI0 := n2_; have HK := n3_; have HB := n4_; clear n0_ n1_ n2_ n3_ n4_; clear hb ho105))
    go_loopg [7, 8] k1 (fun kq v7 v8 w' => ∃ (x7_2 : List (S47)) (x8_2 : Int) (x1001_2 : Int) (x1002_2 : Int), v8 = .int .i64 x8_2 ∧ Aside0 (spec_l09Draw.l1 kq x7_2 x8_2 s0_0 x1001_2 x1002_2 = some (r1, r2, r3)) ∧ Aside0 (kq ≤ k1) ∧ Aside0 (Kd.R k47 47 w' w.heap.size (fun _ => True) v7 x7_2) ∧ Aside0 (IsS92 w0 w' g s0_0 x1001_2 x1002_2) ∧ Aside0 (KeepBut w w' g none) ∧ Aside0 (Below w0.heap.size w0 w'))
    case atStart => exact ⟨(y417), (0), (t396), (t397), zr, H', ⟨Nat.le_refl _⟩, ⟨by (with_reducible repeat (first | apply Kd.R_alloc | apply Kd.R_drewN | apply Kd.R_drew)); exact Kd.R_mono HO419.out (fun _ hk => trivial)⟩, ⟨zI92 HI0.out⟩, ⟨zK HK.out⟩, ⟨zs (IsS92.ge HI0.out)⟩⟩
    case round =>
     clear H'
     try clear c1
     try clear p2
     try clear p4
     try clear q4
     try clear hx4
     try clear c5
     try clear c6
     try clear p6
     try clear q6
     try clear hx6
     try clear hf6
     try clear c7
     try clear hx7
     try clear hf7
     try clear c8
     try clear c9
     try clear c10
     try clear c12
     try clear c12b0
     try clear c14
     try clear c15
     try clear c18
     try clear c19
     try clear p40
     try clear q40
     try clear hx40
     try clear p41
     try clear q41
     try clear hx41
     try clear c53
     try clear c54
     try clear c56
     try clear c61
     try clear c61b0
     try clear c61b1
     try clear c63
     try clear c63b0
     try clear c64
     try clear c64b0
     try clear p64
     try clear c65
     try clear c65b0
     try clear c66
     try clear c66b0
     try clear c67
     try clear p67
     try clear q67
     try clear hx67
     try clear hf67
     try clear c74
     try clear c75
     try clear c76
     try clear hx76
     try clear hf76
     try clear c79
     try clear c79b0
     try clear c79b1
     try clear c80
     try clear c80b0
     try clear c81
     try clear c81b0
     try clear c82
     try clear c87
     try clear c87b0
     try clear c87b1
     try clear c91
     try clear c91b0
     try clear c91b1
     try clear c93
     try clear c93b0
     try clear c94
     try clear c94b0
     try clear c95
     try clear c100
     try clear c100b0
     try clear c100b1
     try clear hcz57_0
     try clear hcz57_1
     try clear hcz57_2
     try clear hfz57_0
     try clear hfz57_1
     try clear hfz57_2
     try clear hx404_0
     try clear hx409_0
     try clear hx409_1
     try clear hx409_2
     try clear hx413_0
     try clear hx413_1
     try clear hx413_2
     try clear hx67_0
     try clear hx67_1
     try clear hx67_2
     try clear hx76_2
     try clear p404
     try clear p409
     try clear p413
     try clear p67
     try clear q404
     try clear q409
     try clear q413
     try clear q67
     obtain ⟨x7_2, x8_2, x1001_2, x1002_2, rfl, HA, HK2, HO_7, HI0, HK, HB⟩ := hrel
     cases gk with
     | zero => exact absurd HA.out (by simp [spec_l09Draw.l1])
     | succ k2 =>
      have H := HA.out
      clear HA
      simp only [spec_l09Draw.l1] at H
      replace H := Option.bind_eq_some_iff.mp H
      obtain ⟨⟨t420, t421, t422⟩, A1060, H⟩ := H
      replace H : (if x8_2 < (wrap64 (24 + t420)) then (if x7_2.length < 5864062014805 then (spec_l09Draw.l1 k2 (x7_2 ++ [(⟨Int.tmod x8_2 5, wrap64 (Int.tdiv x8_2 5), 0⟩ : S47)]) (wrap64 (x8_2 + 1)) s0_0 t421 t422) else (none)) else (some (x7_2, t421, t422))) = some (r1, r2, r3) := H
      have A106 := aM A1060
      clear A1060
      by_cases c107 : x8_2 < (wrap64 (24 + t420))
      rotate_left
      ·rw [if_neg c107] at H
       have c107b0 : decide (x8_2 < (wrap64 (24 + t420))) = false := decide_eq_false c107
       clear c107
       simp only [Option.some.injEq, Prod.mk.injEq] at H
       obtain ⟨rfl, rfl, rfl⟩ := H
       go_wp2_with (first | ((with_reducible refine gate_callee (f := 74) rfl ?_); refine goesL_ (some 97) rfl rfl Try.func74 (by kernel_rfl) rfl #[.pointer (some ⟨g, 0, none⟩), .int .i64 2] rfl zm ?_; (with_reducible refine (spec_l01Next.calls g s0_0 x1001_2 x1002_2 2 t420 t421 t422 w0 _ ?side1 ?side2 A106.out).mono ?_); (case side1 => exact zI92 HI0.out); (case side2 => exact zs (IsS92.ge HI0.out)); rintro e w111 ⟨rfl, hi, hb, hk⟩; refine ⟨_, rfl, ?_⟩; have n0_ := aM (Kd.R_mono (Kd.R_keep (IsS92.apart (show IsS92 w0 _ g s0_0 x1001_2 x1002_2 from zI92 HI0.out) (mR_ HO_7.out) (by decide)) hk (fun _ h => h.2)) (fun _ h => h.1)); have n1_ := aM (KeepBut.trans (zK HK.out) hk (.inl rfl)); have n2_ := aM (hb); have n3_ := aM (hi); clear HO_7; clear HK; clear HB; clear HI0; have HO_7 := n0_; have HK := n1_; have HB := n2_; have HI0 := n3_; clear n0_ n1_ n2_ n3_; (try clear hb); (try clear hb2); (try clear hk); (try clear hi)))
       go_ret
       exact ⟨_, zw, mR_ HO_7.out, zI92 HI0.out, zs (IsS92.ge HI0.out), zK HK.out⟩
      rw [if_pos c107] at H
      have c107b0 : decide (x8_2 < (wrap64 (24 + t420))) = true := decide_eq_true c107
      clear c107
      by_cases c108 : x7_2.length < 5864062014805
      rotate_left
      ·rw [if_neg c108] at H
       exact absurd H (by simp)
      rw [if_pos c108] at H
      have LMc108 := aM c108
      clear c108
      obtain ⟨y423, hy423⟩ : ∃ y_ : List (S47), y_ = (x7_2 ++ [(⟨Int.tmod x8_2 5, wrap64 (Int.tdiv x8_2 5), 0⟩ : S47)]) := ⟨_, rfl⟩
      replace H : (spec_l09Draw.l1 k2 y423 (wrap64 (x8_2 + 1)) s0_0 t421 t422) = some (r1, r2, r3) := zy H hy423
      have Ny423 := aM hy423
      clear hy423
      have H' := aM H
      clear H
      go_wp2_with (first | ((with_reducible refine gate_callee (f := 74) rfl ?_); refine goesL_ (some 97) rfl rfl Try.func74 (by kernel_rfl) rfl #[.pointer (some ⟨g, 0, none⟩), .int .i64 2] rfl zm ?_; (with_reducible refine (spec_l01Next.calls g s0_0 x1001_2 x1002_2 2 t420 t421 t422 w0 _ ?side1 ?side2 A106.out).mono ?_); (case side1 => exact zI92 HI0.out); (case side2 => exact zs (IsS92.ge HI0.out)); rintro e w109 ⟨rfl, hi, hb, hk⟩; refine ⟨_, rfl, ?_⟩; have n0_ := aM (Kd.R_mono (Kd.R_keep (IsS92.apart (show IsS92 w0 _ g s0_0 x1001_2 x1002_2 from zI92 HI0.out) (mR_ HO_7.out) (by decide)) hk (fun _ h => h.2)) (fun _ h => h.1)); have n1_ := aM (KeepBut.trans (zK HK.out) hk (.inl rfl)); have n2_ := aM (hb); have n3_ := aM (hi); clear HO_7; clear HK; clear HB; clear HI0; have HO_7 := n0_; have HK := n1_; have HB := n2_; have HI0 := n3_; clear n0_ n1_ n2_ n3_; (try clear hb); (try clear hb2); (try clear hk); (try clear hi)) | ((with_reducible refine gate_builtin (b := .append) (xs := #[.tmp 102, .tmp 108]) rfl ?_); at_builtin; refine Kd.R_append k47 w.heap.size rfl (.tmp 102) (.tmp 108) 35 47 (.agg #[(.int .i64 0), (.int .i64 0), (.int .i64 0)]) 24 rfl Try.underlying35 info47 rfl (by decide) (by omega) u7 x7_2 (⟨Int.tmod x8_2 5, wrap64 (Int.tdiv x8_2 5), 0⟩ : S47) [.int .i64 (Int.tmod x8_2 5), .int .i64 (wrap64 (Int.tdiv x8_2 5)), .int .i64 0] (fun _ => True) (fun _ => False) rfl rfl ?aP (fun _ hk => hk.elim) ?aF ?aO (Below.refl _ _) ?aS ?aL ?_; (case aP => exact k47_mkM _ _ _ (⟨Int.tmod x8_2 5, wrap64 (Int.tdiv x8_2 5), 0⟩ : S47)); (case aF => exact (fun _ _ => trivial)); (case aO => exact (mR_ HO_7.out)); (case aS => exact (keep_size (w := w) (g := g) (row := none) (zK HK.out))); (case aL => have := LMc108.out; omega); intro v424 w110 ho hb hg hat; rw [← Ny423.out] at ho; have n0_ := aM (IsS92.grown (zI92 HI0.out) hg (IsS92.own_ne HI0.out HO_7.out (by decide))); have n1_ := aM (below_weaken (zs (IsS92.ge HI0.out)) HL.out hb); have n2_ := aM (KeepBut.trans (zK HK.out) (KeepBut.of_grown hg g) (Kd.R_base2 HO_7.out)); have n3_ := aM (ho); clear HI0; clear HB; clear HK; clear HO_7; have HI0 := n0_; have HB := n1_; have HK := n2_; have HO425 := n3_; clear n0_ n1_ n2_ n3_; clear ho hb hg hat))
      go_roundg k2
      case measure => have := HK1.out; have := HK2.out; omega
      case rel => exact ⟨(y423), (wrap64 (x8_2 + 1)), (t421), (t422), zr, H', ⟨by have := HK1.out; have := HK2.out; omega⟩, ⟨mR_ HO425.out⟩, ⟨zI92 HI0.out⟩, ⟨zK HK.out⟩, ⟨zs (IsS92.ge HI0.out)⟩⟩
   rw [if_pos c12] at H
   have c12b0 : decide (0 < x4_1) = true := decide_eq_true c12
   clear c12
   replace H := Option.bind_eq_some_iff.mp H
   obtain ⟨⟨t370, t371, t372⟩, A130, H⟩ := H
   replace H : (if 0 ≤ t370 then (if t370 < (x3_1.length : Int) then ((spec_l09Steps.f).bind fun t374 => ((spec_l01Next.f s0_0 t371 t372 6).bind fun bt377 => (if 0 ≤ bt377.1 then (if bt377.1 < (t374.length : Int) then ((spec_l09Add.f ((rd_T47 x3_1 t370).f0) ((rd_T47 x3_1 t370).f1) ((rd_T47 x3_1 t370).f2) ((rd_T47 t374 bt377.1).f0) ((rd_T47 t374 bt377.1).f1) ((rd_T47 t374 bt377.1).f2)).bind fun bt381 => ((spec_l09Index.f k1 x3_1 bt381.1 bt381.2.1 bt381.2.2).bind fun t385 => (if t385 < 0 then (if x3_1.length < 5864062014805 then ((spec_l09Sort.f k1 (x3_1 ++ [(⟨bt381.1, bt381.2.1, bt381.2.2⟩ : S47)])).bind fun t389 => (spec_l09Draw.l0 k1 t389 (wrap64 (x4_1 - 1)) s0_0 bt377.2.1 bt377.2.2)) else (none)) else (spec_l09Draw.l0 k1 x3_1 (wrap64 (x4_1 - 1)) s0_0 bt377.2.1 bt377.2.2)))) else (none)) else (none)))) else (none)) else (none)) = some (r1, r2, r3) := H
   have A13 := aM A130
   clear A130
   by_cases c14 : 0 ≤ t370
   rotate_left
   ·rw [if_neg c14] at H
    exact absurd H (by simp)
   rw [if_pos c14] at H
   have c14b0 : decide (0 ≤ t370) = true := decide_eq_true c14
   clear c14
   by_cases c15 : t370 < (x3_1.length : Int)
   rotate_left
   ·rw [if_neg c15] at H
    exact absurd H (by simp)
   rw [if_pos c15] at H
   have c15b0 : decide (t370 < (x3_1.length : Int)) = true := decide_eq_true c15
   clear c15
   replace H := Option.bind_eq_some_iff.mp H
   obtain ⟨t374, A160, H⟩ := H
   replace H : ((spec_l01Next.f s0_0 t371 t372 6).bind fun bt377 => (if 0 ≤ bt377.1 then (if bt377.1 < (t374.length : Int) then ((spec_l09Add.f ((rd_T47 x3_1 t370).f0) ((rd_T47 x3_1 t370).f1) ((rd_T47 x3_1 t370).f2) ((rd_T47 t374 bt377.1).f0) ((rd_T47 t374 bt377.1).f1) ((rd_T47 t374 bt377.1).f2)).bind fun bt381 => ((spec_l09Index.f k1 x3_1 bt381.1 bt381.2.1 bt381.2.2).bind fun t385 => (if t385 < 0 then (if x3_1.length < 5864062014805 then ((spec_l09Sort.f k1 (x3_1 ++ [(⟨bt381.1, bt381.2.1, bt381.2.2⟩ : S47)])).bind fun t389 => (spec_l09Draw.l0 k1 t389 (wrap64 (x4_1 - 1)) s0_0 bt377.2.1 bt377.2.2)) else (none)) else (spec_l09Draw.l0 k1 x3_1 (wrap64 (x4_1 - 1)) s0_0 bt377.2.1 bt377.2.2)))) else (none)) else (none))) = some (r1, r2, r3) := H
   have A16 := aM A160
   clear A160
   replace H := Option.bind_eq_some_iff.mp H
   obtain ⟨⟨t377, t378, t379⟩, A170, H⟩ := H
   replace H : (if 0 ≤ t377 then (if t377 < (t374.length : Int) then ((spec_l09Add.f ((rd_T47 x3_1 t370).f0) ((rd_T47 x3_1 t370).f1) ((rd_T47 x3_1 t370).f2) ((rd_T47 t374 t377).f0) ((rd_T47 t374 t377).f1) ((rd_T47 t374 t377).f2)).bind fun bt381 => ((spec_l09Index.f k1 x3_1 bt381.1 bt381.2.1 bt381.2.2).bind fun t385 => (if t385 < 0 then (if x3_1.length < 5864062014805 then ((spec_l09Sort.f k1 (x3_1 ++ [(⟨bt381.1, bt381.2.1, bt381.2.2⟩ : S47)])).bind fun t389 => (spec_l09Draw.l0 k1 t389 (wrap64 (x4_1 - 1)) s0_0 t378 t379)) else (none)) else (spec_l09Draw.l0 k1 x3_1 (wrap64 (x4_1 - 1)) s0_0 t378 t379)))) else (none)) else (none)) = some (r1, r2, r3) := H
   have A17 := aM A170
   clear A170
   by_cases c18 : 0 ≤ t377
   rotate_left
   ·rw [if_neg c18] at H
    exact absurd H (by simp)
   rw [if_pos c18] at H
   have c18b0 : decide (0 ≤ t377) = true := decide_eq_true c18
   clear c18
   by_cases c19 : t377 < (t374.length : Int)
   rotate_left
   ·rw [if_neg c19] at H
    exact absurd H (by simp)
   rw [if_pos c19] at H
   have c19b0 : decide (t377 < (t374.length : Int)) = true := decide_eq_true c19
   clear c19
   replace H := Option.bind_eq_some_iff.mp H
   obtain ⟨⟨t381, t382, t383⟩, A200, H⟩ := H
   replace H : ((spec_l09Index.f k1 x3_1 t381 t382 t383).bind fun t385 => (if t385 < 0 then (if x3_1.length < 5864062014805 then ((spec_l09Sort.f k1 (x3_1 ++ [(⟨t381, t382, t383⟩ : S47)])).bind fun t389 => (spec_l09Draw.l0 k1 t389 (wrap64 (x4_1 - 1)) s0_0 t378 t379)) else (none)) else (spec_l09Draw.l0 k1 x3_1 (wrap64 (x4_1 - 1)) s0_0 t378 t379))) = some (r1, r2, r3) := H
   have A20 := aM A200
   clear A200
   replace H := Option.bind_eq_some_iff.mp H
   obtain ⟨t385, A210, H⟩ := H
   replace H : (if t385 < 0 then (if x3_1.length < 5864062014805 then ((spec_l09Sort.f k1 (x3_1 ++ [(⟨t381, t382, t383⟩ : S47)])).bind fun t389 => (spec_l09Draw.l0 k1 t389 (wrap64 (x4_1 - 1)) s0_0 t378 t379)) else (none)) else (spec_l09Draw.l0 k1 x3_1 (wrap64 (x4_1 - 1)) s0_0 t378 t379)) = some (r1, r2, r3) := H
   have A21 := aM A210
   clear A210
   by_cases c22 : t385 < 0
   rotate_left
   ·rw [if_neg c22] at H
    have c22b0 : decide (t385 < 0) = false := decide_eq_false c22
    clear c22
    have H' := aM H
    clear H
    try go_wp2
    have n0_ := aM (Kd.R_drew HO_3.out)
    have n1_ := aM (IsS92.drew HI0.out)
    have n2_ := aM (keep_drew HK.out)
    have n3_ := aM (below_drew1 HB.out)
    clear HO_3
    clear HI0
    clear HK
    clear HB
    have HO_3 := n0_
    have HI0 := n1_
    have HK := n2_
    have HB := n3_
    clear n0_ n1_ n2_ n3_
    obtain ⟨Ao45, co45, eo45⟩ := Kd.R_slice HO_3.out
    (first | subst eo45 | (injection eo45 with f1_ f2_ f3_; have f4_ := f1_.symm; have f5_ := f3_.symm; clear f1_ f2_ f3_; subst f4_; subst f5_))
    have p373 : 0 ≤ (t370 : Int) := of_decide_eq_true za
    have q373 : t370 < (x3_1.length : Int) := of_decide_eq_true za
    obtain ⟨ad373, e373, hx373_0, hx373_1, hx373_2⟩ := at_T47 (Kd.R_reads' HO_3.out).2.2 t370 p373 q373
    cases e373
    replace p373 := eq_true p373
    replace q373 := eq_true q373
    refine start_ (n := 15) (S := fun w' => (spec_l09Draw.d3 w' ad373 t370 x3_1)) (ds := []) #[false, false, false, false, false, false, false, false, false, false, false, false, false, false, false] (by kernel_rfl) rfl rfl ⟨hx373_0, hx373_1, hx373_2⟩ (fun hHeld => ?_); refine with_tabW spec_l09Draw.tab5 spec_l09Draw.bits5 (fun HT_ HW_ => ?_)
    generalize wr.drew = w44 at HO_3 HI0 HK HB hx373_0 hx373_1 hx373_2 hHeld ⊢
    refine pure_ (i := 0) (N := some 26) (v := ?_) (a' := ?_) #[true, false, false, false, false, false, false, false, false, false, false, false, false, false, false] rfl rfl zz (fun _ _ _ h => h) (Or.inl ⟨by rfl, ?_⟩) ?_ ?_
    rotate_left
    ·intro w'
     go_simp
     with_reducible rfl
    rotate_left
    ·simp only [Act.put, xA, xB, xC, i64_w, i32_w]
     rfl
    refine pure_ (i := 1) (N := some 27) (v := ?_) (a' := ?_) #[true, true, false, false, false, false, false, false, false, false, false, false, false, false, false] rfl rfl zz (fun _ _ _ h => h) (Or.inl ⟨by rfl, ?_⟩) ?_ ?_
    rotate_left
    ·intro w'
     go_simp
     with_reducible rfl
    rotate_left
    ·simp only [Act.put, xA, xB, xC, i64_w, i32_w]
     rfl
    refine pure_ (i := 2) (N := some 28) (v := ?_) (a' := ?_) #[true, true, true, false, false, false, false, false, false, false, false, false, false, false, false] rfl rfl zz (fun _ _ _ h => h) (Or.inl ⟨by rfl, ?_⟩) ?_ ?_
    rotate_left
    ·intro w'
     go_simp
     with_reducible rfl
    rotate_left
    ·simp only [Act.put, xA, xB, xC, i64_w, i32_w]
     rfl
    refine pure_ (i := 3) (N := some 29) (v := ?_) (a' := ?_) #[true, true, true, true, false, false, false, false, false, false, false, false, false, false, false] rfl rfl zz (fun _ _ _ h => h) (Or.inl ⟨by rfl, ?_⟩) ?_ ?_
    rotate_left
    ·intro w'
     go_simp
     with_reducible rfl
    rotate_left
    ·simp only [Act.put, xA, xB, xC, i64_w, i32_w]
     rfl
    refine pure_ (i := 8) (N := some 34) (v := ?_) (a' := ?_) #[true, true, true, true, false, false, false, false, true, false, false, false, false, false, false] rfl rfl zz (fun _ _ _ h => h) (Or.inl ⟨by rfl, ?_⟩) ?_ ?_
    rotate_left
    ·intro w'
     go_simp
     with_reducible rfl
    rotate_left
    ·simp only [Act.put, xA, xB, xC, i64_w, i32_w]
     rfl
    refine join9_ (σ := (Value × Nat) × Addr) (fun s_ w' => (spec_l09Draw.c3 w' (s_.2) t377 t374 ((spec_l09Draw.d3 w' ad373 t370 x3_1)))) 1 #[true, true, true, true, true, true, true, true, true, true, true, true, true, true, false] (fun s_ => [(30, .int .i64 t370), (33, s_.1.1), (35, .int .i64 t377), (38, .agg #[.int .i64 t381, .int .i64 t382, .int .i64 t383]), (5, .pointer (some ⟨s_.1.2, 0, none⟩)), (31, .pointer (some (ad373.add ((t370).toNat * 3)))), (32, .agg #[.int .i64 ((rd_T47 x3_1 t370).f0), .int .i64 ((rd_T47 x3_1 t370).f1), .int .i64 ((rd_T47 x3_1 t370).f2)]), (36, .pointer (some (s_.2.add ((t377).toNat * 3)))), (37, .agg #[.int .i64 ((rd_T47 t374 t377).f0), .int .i64 ((rd_T47 t374 t377).f1), .int .i64 ((rd_T47 t374 t377).f2)])]) (fun s_ w' => ((spec_l09Draw.c3 w' (s_.2) t377 t374 ((spec_l09Draw.d3 w' ad373 t370 x3_1)))) ∧ (Kd.R k47 47 w' w.heap.size (fun k_ => some k_ ≠ (.slice (some ad373) x3_1.length co45 : Value).ownBlock ∧ k_ ≠ s_.1.2) s_.1.1 t374) ∧ (Kd.R k47 47 w' w.heap.size (fun k_ => some k_ ≠ (s_.1.1 : Value).ownBlock ∧ k_ ≠ s_.1.2) (.slice (some ad373) x3_1.length co45) x3_1) ∧ (w'.heap[s_.1.2]? = some (.cells #[.int .i64 0, .int .i64 0, .int .i64 0] 47 (0, 0))) ∧ (w.heap.size ≤ s_.1.2) ∧ (w0.heap.size ≤ s_.1.2) ∧ (g ≠ s_.1.2) ∧ (s_.1.2 ≠ g) ∧ (IsS92 w0 w' g s0_0 t378 t379) ∧ (KeepBut w w' g none) ∧ (Below w0.heap.size w0 w') ∧ (∃ c9_, s_.1.1 = Value.slice (some s_.2) t374.length c9_)) ?_ ?_
    rotate_left
    ·intro hJ4_7_9_12_13
     refine join9_ (σ := (Value) × Addr) (fun s_ w' => (spec_l09Draw.c3 w' (s_.2) t377 t374 ((spec_l09Draw.d3 w' ad373 t370 x3_1)))) 2 #[true, true, true, true, true, true, true, true, true, true, true, true, true, false, false] (fun s_ => [(30, .int .i64 t370), (33, s_.1), (35, .int .i64 t377), (38, .agg #[.int .i64 t381, .int .i64 t382, .int .i64 t383]), (31, .pointer (some (ad373.add ((t370).toNat * 3)))), (32, .agg #[.int .i64 ((rd_T47 x3_1 t370).f0), .int .i64 ((rd_T47 x3_1 t370).f1), .int .i64 ((rd_T47 x3_1 t370).f2)]), (36, .pointer (some (s_.2.add ((t377).toNat * 3)))), (37, .agg #[.int .i64 ((rd_T47 t374 t377).f0), .int .i64 ((rd_T47 t374 t377).f1), .int .i64 ((rd_T47 t374 t377).f2)])]) (fun s_ w' => ((spec_l09Draw.c3 w' (s_.2) t377 t374 ((spec_l09Draw.d3 w' ad373 t370 x3_1)))) ∧ (Kd.R k47 47 w' w.heap.size (fun k_ => some k_ ≠ (.slice (some ad373) x3_1.length co45 : Value).ownBlock) s_.1 t374) ∧ (Kd.R k47 47 w' w.heap.size (fun k_ => some k_ ≠ (s_.1 : Value).ownBlock) (.slice (some ad373) x3_1.length co45) x3_1) ∧ (IsS92 w0 w' g s0_0 t378 t379) ∧ (KeepBut w w' g none) ∧ (Below w0.heap.size w0 w') ∧ (∃ c9_, s_.1 = Value.slice (some s_.2) t374.length c9_)) ?_ ?_
     rotate_left
     ·intro hJ4_7_9_12
      refine join9_ (σ := (Value × Nat) × Addr) (fun s_ w' => (spec_l09Draw.c3 w' (s_.2) t377 t374 ((spec_l09Draw.d3 w' ad373 t370 x3_1)))) 2 #[true, true, true, true, true, true, true, true, true, true, true, true, false, true, false] (fun s_ => [(30, .int .i64 t370), (33, s_.1.1), (35, .int .i64 t377), (5, .pointer (some ⟨s_.1.2, 0, none⟩)), (31, .pointer (some (ad373.add ((t370).toNat * 3)))), (32, .agg #[.int .i64 ((rd_T47 x3_1 t370).f0), .int .i64 ((rd_T47 x3_1 t370).f1), .int .i64 ((rd_T47 x3_1 t370).f2)]), (36, .pointer (some (s_.2.add ((t377).toNat * 3)))), (37, .agg #[.int .i64 ((rd_T47 t374 t377).f0), .int .i64 ((rd_T47 t374 t377).f1), .int .i64 ((rd_T47 t374 t377).f2)])]) (fun s_ w' => ((spec_l09Draw.c3 w' (s_.2) t377 t374 ((spec_l09Draw.d3 w' ad373 t370 x3_1)))) ∧ (Kd.R k47 47 w' w.heap.size (fun k_ => some k_ ≠ (.slice (some ad373) x3_1.length co45 : Value).ownBlock ∧ k_ ≠ s_.1.2) s_.1.1 t374) ∧ (Kd.R k47 47 w' w.heap.size (fun k_ => some k_ ≠ (s_.1.1 : Value).ownBlock ∧ k_ ≠ s_.1.2) (.slice (some ad373) x3_1.length co45) x3_1) ∧ (w'.heap[s_.1.2]? = some (.cells #[.int .i64 0, .int .i64 0, .int .i64 0] 47 (0, 0))) ∧ (w.heap.size ≤ s_.1.2) ∧ (w0.heap.size ≤ s_.1.2) ∧ (g ≠ s_.1.2) ∧ (s_.1.2 ≠ g) ∧ (IsS92 w0 w' g s0_0 t378 t379) ∧ (KeepBut w w' g none) ∧ (Below w0.heap.size w0 w') ∧ (∃ c9_, s_.1.1 = Value.slice (some s_.2) t374.length c9_)) ?_ ?_
      rotate_left
      ·intro hJ4_7_9_13
       refine join9_ (σ := (Value) × Addr) (fun s_ w' => (spec_l09Draw.c3 w' (s_.2) t377 t374 ((spec_l09Draw.d3 w' ad373 t370 x3_1)))) 3 #[true, true, true, true, true, true, true, true, true, true, true, true, false, false, false] (fun s_ => [(30, .int .i64 t370), (33, s_.1), (35, .int .i64 t377), (31, .pointer (some (ad373.add ((t370).toNat * 3)))), (32, .agg #[.int .i64 ((rd_T47 x3_1 t370).f0), .int .i64 ((rd_T47 x3_1 t370).f1), .int .i64 ((rd_T47 x3_1 t370).f2)]), (36, .pointer (some (s_.2.add ((t377).toNat * 3)))), (37, .agg #[.int .i64 ((rd_T47 t374 t377).f0), .int .i64 ((rd_T47 t374 t377).f1), .int .i64 ((rd_T47 t374 t377).f2)])]) (fun s_ w' => ((spec_l09Draw.c3 w' (s_.2) t377 t374 ((spec_l09Draw.d3 w' ad373 t370 x3_1)))) ∧ (Kd.R k47 47 w' w.heap.size (fun k_ => some k_ ≠ (.slice (some ad373) x3_1.length co45 : Value).ownBlock) s_.1 t374) ∧ (Kd.R k47 47 w' w.heap.size (fun k_ => some k_ ≠ (s_.1 : Value).ownBlock) (.slice (some ad373) x3_1.length co45) x3_1) ∧ (IsS92 w0 w' g s0_0 t378 t379) ∧ (KeepBut w w' g none) ∧ (Below w0.heap.size w0 w') ∧ (∃ c9_, s_.1 = Value.slice (some s_.2) t374.length c9_)) ?_ ?_
       rotate_left
       ·intro hJ4_7_9
        refine join9_ (σ := (Value × Nat) × Addr) (fun s_ w' => (spec_l09Draw.c3 w' (s_.2) t377 t374 ((spec_l09Draw.d3 w' ad373 t370 x3_1)))) 5 #[true, true, true, true, true, true, true, true, true, false, false, false, false, true, false] (fun s_ => [(30, .int .i64 t370), (33, s_.1.1), (5, .pointer (some ⟨s_.1.2, 0, none⟩)), (31, .pointer (some (ad373.add ((t370).toNat * 3)))), (32, .agg #[.int .i64 ((rd_T47 x3_1 t370).f0), .int .i64 ((rd_T47 x3_1 t370).f1), .int .i64 ((rd_T47 x3_1 t370).f2)])]) (fun s_ w' => ((spec_l09Draw.c3 w' (s_.2) t377 t374 ((spec_l09Draw.d3 w' ad373 t370 x3_1)))) ∧ (Kd.R k47 47 w' w.heap.size (fun k_ => some k_ ≠ (.slice (some ad373) x3_1.length co45 : Value).ownBlock ∧ k_ ≠ s_.1.2) s_.1.1 t374) ∧ (Kd.R k47 47 w' w.heap.size (fun k_ => some k_ ≠ (s_.1.1 : Value).ownBlock ∧ k_ ≠ s_.1.2) (.slice (some ad373) x3_1.length co45) x3_1) ∧ (w'.heap[s_.1.2]? = some (.cells #[.int .i64 0, .int .i64 0, .int .i64 0] 47 (0, 0))) ∧ (w.heap.size ≤ s_.1.2) ∧ (w0.heap.size ≤ s_.1.2) ∧ (g ≠ s_.1.2) ∧ (s_.1.2 ≠ g) ∧ (IsS92 w0 w' g s0_0 t371 t372) ∧ (KeepBut w w' g none) ∧ (Below w0.heap.size w0 w') ∧ (∃ c9_, s_.1.1 = Value.slice (some s_.2) t374.length c9_)) ?_ ?_
        rotate_left
        ·intro hJ4_7_13
         refine join9_ (σ := (Value) × Addr) (fun s_ w' => (spec_l09Draw.c3 w' (s_.2) t377 t374 ((spec_l09Draw.d3 w' ad373 t370 x3_1)))) 6 #[true, true, true, true, true, true, true, true, true, false, false, false, false, false, false] (fun s_ => [(30, .int .i64 t370), (33, s_.1), (31, .pointer (some (ad373.add ((t370).toNat * 3)))), (32, .agg #[.int .i64 ((rd_T47 x3_1 t370).f0), .int .i64 ((rd_T47 x3_1 t370).f1), .int .i64 ((rd_T47 x3_1 t370).f2)])]) (fun s_ w' => ((spec_l09Draw.c3 w' (s_.2) t377 t374 ((spec_l09Draw.d3 w' ad373 t370 x3_1)))) ∧ (Kd.R k47 47 w' w.heap.size (fun k_ => some k_ ≠ (.slice (some ad373) x3_1.length co45 : Value).ownBlock) s_.1 t374) ∧ (Kd.R k47 47 w' w.heap.size (fun k_ => some k_ ≠ (s_.1 : Value).ownBlock) (.slice (some ad373) x3_1.length co45) x3_1) ∧ (IsS92 w0 w' g s0_0 t371 t372) ∧ (KeepBut w w' g none) ∧ (Below w0.heap.size w0 w') ∧ (∃ c9_, s_.1 = Value.slice (some s_.2) t374.length c9_)) ?_ ?_
         rotate_left
         ·intro hJ4_7
          refine join_ (σ := Nat) 6 #[true, true, true, true, true, true, true, false, true, false, false, false, false, true, false] (fun s_ => [(30, .int .i64 t370), (5, .pointer (some ⟨s_, 0, none⟩)), (31, .pointer (some (ad373.add ((t370).toNat * 3)))), (32, .agg #[.int .i64 ((rd_T47 x3_1 t370).f0), .int .i64 ((rd_T47 x3_1 t370).f1), .int .i64 ((rd_T47 x3_1 t370).f2)])]) (fun s_ w' => ((spec_l09Draw.d3 w' ad373 t370 x3_1)) ∧ (Kd.R k47 47 w' w.heap.size (fun k_ => k_ ≠ s_) (.slice (some ad373) x3_1.length co45) x3_1) ∧ (w'.heap[s_]? = some (.cells #[.int .i64 0, .int .i64 0, .int .i64 0] 47 (0, 0))) ∧ (w.heap.size ≤ s_) ∧ (w0.heap.size ≤ s_) ∧ (g ≠ s_) ∧ (s_ ≠ g) ∧ (IsS92 w0 w' g s0_0 t371 t372) ∧ (KeepBut w w' g none) ∧ (Below w0.heap.size w0 w')) ?_ ?_
          rotate_left
          ·intro hJ4_13
           refine join_ (σ := Unit) 7 #[true, true, true, true, true, true, true, false, true, false, false, false, false, false, false] (fun s_ => [(30, .int .i64 t370), (31, .pointer (some (ad373.add ((t370).toNat * 3)))), (32, .agg #[.int .i64 ((rd_T47 x3_1 t370).f0), .int .i64 ((rd_T47 x3_1 t370).f1), .int .i64 ((rd_T47 x3_1 t370).f2)])]) (fun s_ w' => ((spec_l09Draw.d3 w' ad373 t370 x3_1)) ∧ (Kd.R k47 47 w' w.heap.size (fun _ => True) (.slice (some ad373) x3_1.length co45) x3_1) ∧ (IsS92 w0 w' g s0_0 t371 t372) ∧ (KeepBut w w' g none) ∧ (Below w0.heap.size w0 w')) ?_ ?_
           rotate_left
           ·intro hJ4
            refine join_ (σ := Nat) 9 #[true, true, true, true, false, false, false, false, true, false, false, false, false, true, false] (fun s_ => [(5, .pointer (some ⟨s_, 0, none⟩))]) (fun s_ w' => ((spec_l09Draw.d3 w' ad373 t370 x3_1)) ∧ (Kd.R k47 47 w' w.heap.size (fun k_ => k_ ≠ s_) (.slice (some ad373) x3_1.length co45) x3_1) ∧ (w'.heap[s_]? = some (.cells #[.int .i64 0, .int .i64 0, .int .i64 0] 47 (0, 0))) ∧ (w.heap.size ≤ s_) ∧ (w0.heap.size ≤ s_) ∧ (g ≠ s_) ∧ (s_ ≠ g) ∧ (IsS92 w0 w' g s0_0 x1001_1 x1002_1) ∧ (KeepBut w w' g none) ∧ (Below w0.heap.size w0 w')) ?_ ?_
            rotate_left
            ·intro hJ13
             refine two_ (i := 4) (j := 13) (Ni := some 30) (Nj := some 5) #[true, true, true, true, true, false, false, false, true, false, false, false, false, false, false] #[true, true, true, true, false, false, false, false, true, false, false, false, false, true, false] rfl rfl rfl rfl (two_of HT_.out (by kernel_rfl)) (by decide) (by decide) (fun K hK => ?_) (fun K hK => ?_)
             ·skip
              refine goes_ Try.func74 (by kernel_rfl) rfl #[.pointer (some ⟨g, 0, none⟩), .int .i64 (x3_1.length : Int)] (by rfl) rfl rfl zm ?_
              with_reducible refine (spec_l01Next.calls g s0_0 x1001_1 x1002_1 (x3_1.length : Int) t370 t371 t372 w0 _ ?side1 ?side2 A13.out).mono ?_
              (case side1 => exact zI92 HI0.out)
              (case side2 => exact zs (IsS92.ge HI0.out))
              rintro e w46 ⟨rfl, hi, hb, hk⟩
              have HS3_ := keep_cell hk (hHeld.1) (by first | (rw [add_block]; exact Kd.own_blk (IsS92.own_ne HI0.out HO_3.out (by decide))) | (show (Addr.add _ _).block ≠ _; rw [add_block]; exact Kd.own_blk (IsS92.own_ne HI0.out HO_3.out (by decide))) | exact Kd.own_blk (IsS92.own_ne HI0.out HO_3.out (by decide)))
              have HS4_ := keep_cell hk (hHeld.2.1) (by first | (rw [add_block]; exact Kd.own_blk (IsS92.own_ne HI0.out HO_3.out (by decide))) | (show (Addr.add _ _).block ≠ _; rw [add_block]; exact Kd.own_blk (IsS92.own_ne HI0.out HO_3.out (by decide))) | exact Kd.own_blk (IsS92.own_ne HI0.out HO_3.out (by decide)))
              have HS5_ := keep_cell hk (hHeld.2.2) (by first | (rw [add_block]; exact Kd.own_blk (IsS92.own_ne HI0.out HO_3.out (by decide))) | (show (Addr.add _ _).block ≠ _; rw [add_block]; exact Kd.own_blk (IsS92.own_ne HI0.out HO_3.out (by decide))) | exact Kd.own_blk (IsS92.own_ne HI0.out HO_3.out (by decide)))
              refine ⟨_, rfl, ?_⟩
              have n0_ := aM (Kd.R_mono (Kd.R_keep (IsS92.apart (show IsS92 w0 _ g s0_0 x1001_1 x1002_1 from zI92 HI0.out) (mR_ HO_3.out) (by decide)) hk (fun _ h => h.2)) (fun _ h => h.1))
              have n1_ := aM (KeepBut.trans (zK HK.out) hk (.inl rfl))
              have n2_ := aM (hb)
              have n3_ := aM (hi)
              clear HO_3
              clear HK
              clear HB
              clear HI0
              have HO_3 := n0_
              have HK := n1_
              have HB := n2_
              have HI0 := n3_
              clear n0_ n1_ n2_ n3_
              (try clear hb)
              (try clear hb2)
              (try clear hk)
              (try clear hi)
              refine hK.out _ _ ⟨HS3_, HS4_, HS5_⟩ (fun hHeld => ?_)
              clear hK K
              refine norm_ (a' := ?_) ?_ ?_
              rotate_left
              ·show Act.put _ (some 30) _ = _
               simp only [Act.put, xA, xB, xC, i64_w, i32_w]
               rfl
              refine pure_ (i := 5) (N := some 31) (v := ?_) (a' := ?_) #[true, true, true, true, true, true, false, false, true, false, false, false, false, false, false] rfl rfl zz (fun _ _ _ h => h) (Or.inl ⟨by rfl, ?_⟩) ?_ ?_
              rotate_left
              ·intro w'
               go_simp
               with_reducible rfl
              rotate_left
              ·simp only [Act.put, xA, xB, xC, i64_w, i32_w]
               rfl
              refine take_ (i := 6) (N := some 32) (v := ?_) (a' := ?_) #[true, true, true, true, true, true, true, false, true, false, false, false, false, false, false] rfl rfl (take_ofW HT_.out HW_.out (by kernel_rfl)) (fun _ _ _ h => h) (Or.inl ⟨by rfl, ?_⟩) hHeld ?_ ?_
              rotate_left
              ·rintro w' ⟨s0, s1, s2⟩
               go_simp
               with_reducible rfl
              rotate_left
              ·simp only [Act.put, xA, xB, xC, i64_w, i32_w]
               rfl
              exact norm_ (by first | (simp only [putAll, Act.put, xA, xB, xC]; done) | (simp only [putAll, Act.put, xA, xB, xC]; rfl)) (hJ4 () _ ⟨hHeld, (mR_ HO_3.out), (zI92 HI0.out), (zK HK.out), (zs (IsS92.ge HI0.out))⟩)
             ·skip
              refine box_step ?hg (N := 5) ?hd (cs := #[.int .i64 0, .int .i64 0, .int .i64 0]) (t := 47) ?hr ?_; (case hd => rfl); (case hg => rfl); (case hr => first | (go_simp; done) | (go_simp; rfl))
              intro gb384 hg w46 hbox hb
              have HS3_ := (hb.cell (World.block_lt_of_cell? _ _ (hHeld.1))).trans (hHeld.1)
              have HS4_ := (hb.cell (World.block_lt_of_cell? _ _ (hHeld.2.1))).trans (hHeld.2.1)
              have HS5_ := (hb.cell (World.block_lt_of_cell? _ _ (hHeld.2.2))).trans (hHeld.2.2)
              have n0_ := aM (Kd.R_below (Kd.R_elderB (mR_ HO_3.out) gb384 (Nat.le_of_eq hg.symm)) hb)
              have n1_ := aM (IsS92.below (zI92 HI0.out) hb)
              have n2_ := aM (KeepBut.trans (zK HK.out) (KeepBut.of_below hb g none) (.inl rfl))
              have n3_ := aM (below_step (zs (IsS92.ge HI0.out)) hb)
              have n4_ := aM (hbox)
              have n5_ := aM ((by rw [hg]; exact (keep_size (w := w) (g := g) (row := none) (zK HK.out)) : w.heap.size ≤ gb384))
              have n6_ := aM ((Nat.le_trans HW0.out (by rw [hg]; exact (keep_size (w := w) (g := g) (row := none) (zK HK.out)) : w.heap.size ≤ gb384) : w0.heap.size ≤ gb384))
              have n7_ := aM ((by rw [hg]; exact Nat.ne_of_lt (IsS92.lt (show IsS92 w0 _ g s0_0 x1001_1 x1002_1 from zI92 HI0.out)) : g ≠ gb384))
              have n8_ := aM ((by rw [hg]; exact Nat.ne_of_gt (IsS92.lt (show IsS92 w0 _ g s0_0 x1001_1 x1002_1 from zI92 HI0.out)) : gb384 ≠ g))
              clear HO_3
              clear HI0
              clear HK
              clear HB
              have HO_3 := n0_
              have HI0 := n1_
              have HK := n2_
              have HB := n3_
              have BK384 := n4_
              have GW384 := n5_
              have GE384 := n6_
              have NB0_384 := n7_
              have NB384_0 := n8_
              clear n0_ n1_ n2_ n3_ n4_ n5_ n6_ n7_ n8_
              clear hb hbox hg
              refine hK.out _ _ ⟨HS3_, HS4_, HS5_⟩ (fun hHeld => ?_)
              clear hK K
              refine norm_ (a' := ?_) ?_ ?_
              rotate_left
              ·show Act.put _ (some 5) _ = _
               simp only [Act.put, xA, xB, xC, i64_w, i32_w]
               rfl
              exact norm_ (by first | (simp only [putAll, Act.put, xA, xB, xC]; done) | (simp only [putAll, Act.put, xA, xB, xC]; rfl)) (hJ13 (gb384) _ ⟨hHeld, (by (with_reducible repeat (first | apply Kd.R_alloc | apply Kd.R_drewN | apply Kd.R_drew)); exact Kd.R_mono HO_3.out (fun _ hk => hk.2)), (mB_ BK384.out), GW384.out, GE384.out, NB0_384.out, NB384_0.out, (by repeat (first | (with_reducible first | exact HI0.out | apply IsS92.alloc | apply IsS92.drewN | apply IsS92.drew | apply IsS92.set_1 | apply IsS92.set_2 | refine IsS92.far ?_ NB0_384.out _) | exact HI0.out)), (by repeat (first | (with_reducible first | exact HK.out | apply KeepBut.set_ | apply keep_drewN | apply keep_drew | apply keep_alloc | refine keep_far ?_ GW384.out _) | exact HK.out)), (by repeat (first | (with_reducible first | exact HB.out | apply below_alloc | apply pw_below_drewN | apply below_drew1 | refine below_set ?_ (IsS92.ge HI0.out) | refine below_set ?_ GE384.out) | exact HB.out))⟩)
            ·skip
             rintro gb384 w47 ⟨hS_, h0_, h1_, h2_, h3_, h4_, h5_, h6_, h7_, h8_⟩
             have n0_ : Aside0 (Kd.R k47 47 w47 w.heap.size (fun k_ => k_ ≠ gb384) (.slice (some ad373) x3_1.length co45) x3_1) := ⟨h0_⟩
             have n1_ : Aside0 (w47.heap[gb384]? = some (.cells #[.int .i64 0, .int .i64 0, .int .i64 0] 47 (0, 0))) := ⟨h1_⟩
             have n2_ : Aside0 (w.heap.size ≤ gb384) := ⟨h2_⟩
             have n3_ : Aside0 (w0.heap.size ≤ gb384) := ⟨h3_⟩
             have n4_ : Aside0 (g ≠ gb384) := ⟨h4_⟩
             have n5_ : Aside0 (gb384 ≠ g) := ⟨h5_⟩
             have n6_ : Aside0 (IsS92 w0 w47 g s0_0 x1001_1 x1002_1) := ⟨h6_⟩
             have n7_ : Aside0 (KeepBut w w47 g none) := ⟨h7_⟩
             have n8_ : Aside0 (Below w0.heap.size w0 w47) := ⟨h8_⟩
             clear HO_3
             clear HI0
             clear HK
             clear HB
             clear h0_ h1_ h2_ h3_ h4_ h5_ h6_ h7_ h8_
             have HO_3 := n0_
             have BK384 := n1_
             have GW384 := n2_
             have GE384 := n3_
             have NB0_384 := n4_
             have NB384_0 := n5_
             have HI0 := n6_
             have HK := n7_
             have HB := n8_
             clear n0_ n1_ n2_ n3_ n4_ n5_ n6_ n7_ n8_
             have hHeld : (spec_l09Draw.d3 w47 ad373 t370 x3_1) := hS_
             refine norm_ (a' := ?_) ?_ ?_
             rotate_left
             ·simp only [putAll, Act.put, xA, xB, xC]
              rfl
             refine one_ (i := 4) (N := some 30) #[true, true, true, true, true, false, false, false, true, false, false, false, false, true, false] rfl rfl (one_of HT_.out (by kernel_rfl)) (by decide) (fun K hK => ?_)
             refine goes_ Try.func74 (by kernel_rfl) rfl #[.pointer (some ⟨g, 0, none⟩), .int .i64 (x3_1.length : Int)] (by rfl) rfl rfl zm ?_
             with_reducible refine (spec_l01Next.calls g s0_0 x1001_1 x1002_1 (x3_1.length : Int) t370 t371 t372 w0 _ ?side1 ?side2 A13.out).mono ?_
             (case side1 => repeat (first | (with_reducible first | exact HI0.out | apply IsS92.alloc | apply IsS92.drewN | apply IsS92.drew | apply IsS92.set_1 | apply IsS92.set_2 | refine IsS92.far ?_ NB0_384.out _) | exact HI0.out))
             (case side2 => repeat (first | (with_reducible first | exact HB.out | apply below_alloc | apply pw_below_drewN | apply below_drew1 | refine below_set ?_ (IsS92.ge HI0.out) | refine below_set ?_ GE384.out) | exact HB.out))
             rintro e w48 ⟨rfl, hi, hb, hk⟩
             have HS3_ := keep_cell hk (hHeld.1) (by first | (rw [add_block]; exact Kd.own_blk (IsS92.own_ne HI0.out HO_3.out (by decide))) | (show (Addr.add _ _).block ≠ _; rw [add_block]; exact Kd.own_blk (IsS92.own_ne HI0.out HO_3.out (by decide))) | exact Kd.own_blk (IsS92.own_ne HI0.out HO_3.out (by decide)))
             have HS4_ := keep_cell hk (hHeld.2.1) (by first | (rw [add_block]; exact Kd.own_blk (IsS92.own_ne HI0.out HO_3.out (by decide))) | (show (Addr.add _ _).block ≠ _; rw [add_block]; exact Kd.own_blk (IsS92.own_ne HI0.out HO_3.out (by decide))) | exact Kd.own_blk (IsS92.own_ne HI0.out HO_3.out (by decide)))
             have HS5_ := keep_cell hk (hHeld.2.2) (by first | (rw [add_block]; exact Kd.own_blk (IsS92.own_ne HI0.out HO_3.out (by decide))) | (show (Addr.add _ _).block ≠ _; rw [add_block]; exact Kd.own_blk (IsS92.own_ne HI0.out HO_3.out (by decide))) | exact Kd.own_blk (IsS92.own_ne HI0.out HO_3.out (by decide)))
             refine ⟨_, rfl, ?_⟩
             have n0_ := aM (Kd.R_mono (Kd.R_keep (IsS92.apart (show IsS92 w0 _ g s0_0 x1001_1 x1002_1 from by repeat (first | (with_reducible first | exact HI0.out | apply IsS92.alloc | apply IsS92.drewN | apply IsS92.drew | apply IsS92.set_1 | apply IsS92.set_2 | refine IsS92.far ?_ NB0_384.out _) | exact HI0.out)) (mR_ HO_3.out) (by decide)) hk (fun _ h => h.2)) (fun _ h => h.1))
             have n1_ := aM (KeepBut.blk hk (g' := gb384) (o := .cells #[.int .i64 0, .int .i64 0, .int .i64 0] 47 (0, 0)) (mB_ BK384.out) NB384_0.out (by simp))
             have n2_ := aM (KeepBut.trans (by repeat (first | (with_reducible first | exact HK.out | apply KeepBut.set_ | apply keep_drewN | apply keep_drew | apply keep_alloc | refine keep_far ?_ GW384.out _) | exact HK.out)) hk (.inl rfl))
             have n3_ := aM (hb)
             have n4_ := aM (hi)
             clear HO_3
             clear BK384
             clear HK
             clear HB
             clear HI0
             have HO_3 := n0_
             have BK384 := n1_
             have HK := n2_
             have HB := n3_
             have HI0 := n4_
             clear n0_ n1_ n2_ n3_ n4_
             (try clear hb)
             (try clear hb2)
             (try clear hk)
             (try clear hi)
             refine hK.out _ _ ⟨HS3_, HS4_, HS5_⟩ (fun hHeld => ?_)
             clear hK K
             refine norm_ (a' := ?_) ?_ ?_
             rotate_left
             ·show Act.put _ (some 30) _ = _
              simp only [Act.put, xA, xB, xC, i64_w, i32_w]
              rfl
             refine pure_ (i := 5) (N := some 31) (v := ?_) (a' := ?_) #[true, true, true, true, true, true, false, false, true, false, false, false, false, true, false] rfl rfl zz (fun _ _ _ h => h) (Or.inl ⟨by rfl, ?_⟩) ?_ ?_
             rotate_left
             ·intro w'
              go_simp
              with_reducible rfl
             rotate_left
             ·simp only [Act.put, xA, xB, xC, i64_w, i32_w]
              rfl
             refine take_ (i := 6) (N := some 32) (v := ?_) (a' := ?_) #[true, true, true, true, true, true, true, false, true, false, false, false, false, true, false] rfl rfl (take_ofW HT_.out HW_.out (by kernel_rfl)) (fun _ _ _ h => h) (Or.inl ⟨by rfl, ?_⟩) hHeld ?_ ?_
             rotate_left
             ·rintro w' ⟨s0, s1, s2⟩
              go_simp
              with_reducible rfl
             rotate_left
             ·simp only [Act.put, xA, xB, xC, i64_w, i32_w]
              rfl
             exact norm_ (by first | (simp only [putAll, Act.put, xA, xB, xC]; done) | (simp only [putAll, Act.put, xA, xB, xC]; rfl)) (hJ4_13 (gb384) _ ⟨hHeld, (mR_ HO_3.out), (mB_ BK384.out), GW384.out, GE384.out, NB0_384.out, NB384_0.out, (by repeat (first | (with_reducible first | exact HI0.out | apply IsS92.alloc | apply IsS92.drewN | apply IsS92.drew | apply IsS92.set_1 | apply IsS92.set_2 | refine IsS92.far ?_ NB0_384.out _) | exact HI0.out)), (by repeat (first | (with_reducible first | exact HK.out | apply KeepBut.set_ | apply keep_drewN | apply keep_drew | apply keep_alloc | refine keep_far ?_ GW384.out _) | exact HK.out)), (by repeat (first | (with_reducible first | exact HB.out | apply below_alloc | apply pw_below_drewN | apply below_drew1 | refine below_set ?_ (IsS92.ge HI0.out) | refine below_set ?_ GE384.out) | exact HB.out))⟩)
           ·skip
            rintro _ w47 ⟨hS_, h0_, h1_, h2_, h3_⟩
            have n0_ : Aside0 (Kd.R k47 47 w47 w.heap.size (fun _ => True) (.slice (some ad373) x3_1.length co45) x3_1) := ⟨h0_⟩
            have n1_ : Aside0 (IsS92 w0 w47 g s0_0 t371 t372) := ⟨h1_⟩
            have n2_ : Aside0 (KeepBut w w47 g none) := ⟨h2_⟩
            have n3_ : Aside0 (Below w0.heap.size w0 w47) := ⟨h3_⟩
            clear HO_3
            clear HI0
            clear HK
            clear HB
            clear h0_ h1_ h2_ h3_
            have HO_3 := n0_
            have HI0 := n1_
            have HK := n2_
            have HB := n3_
            clear n0_ n1_ n2_ n3_
            have hHeld : (spec_l09Draw.d3 w47 ad373 t370 x3_1) := hS_
            refine norm_ (a' := ?_) ?_ ?_
            rotate_left
            ·simp only [putAll, Act.put, xA, xB, xC]
             rfl
            refine two_ (i := 7) (j := 13) (Ni := some 33) (Nj := some 5) #[true, true, true, true, true, true, true, true, true, false, false, false, false, false, false] #[true, true, true, true, true, true, true, false, true, false, false, false, false, true, false] rfl rfl rfl rfl (two_of HT_.out (by kernel_rfl)) (by decide) (by decide) (fun K hK => ?_) (fun K hK => ?_)
            ·skip
             refine goes_ Try.func55 (by kernel_rfl) rfl #[] (by rfl) rfl rfl zm ?_
             with_reducible refine (spec_l09Steps.calls  t374 _ A16.out).mono ?_
             rintro e w48 ⟨v375, rfl, ho0, hb⟩
             have HS3_ := (hb.cell (World.block_lt_of_cell? _ _ (hHeld.1))).trans (hHeld.1)
             have HS4_ := (hb.cell (World.block_lt_of_cell? _ _ (hHeld.2.1))).trans (hHeld.2.1)
             have HS5_ := (hb.cell (World.block_lt_of_cell? _ _ (hHeld.2.2))).trans (hHeld.2.2)
             refine ⟨_, rfl, ?_⟩
             have n0_ := aM (Kd.R_elder' (mR_ HO_3.out) (Kd.R_base ho0) hb)
             have n1_ := aM (Kd.R_lower (Kd.R_new' ho0 (Kd.R_lt (mR_ HO_3.out))) (keep_size (w := w) (g := g) (row := none) (zK HK.out)))
             have n2_ := aM (IsS92.below (zI92 HI0.out) hb)
             have n3_ := aM (KeepBut.trans (zK HK.out) (KeepBut.of_below hb g none) (.inl rfl))
             have n4_ := aM (below_step (zs (IsS92.ge HI0.out)) hb)
             clear HO_3
             clear HI0
             clear HK
             clear HB
             have HO_3 := n0_
             have HO376 := n1_
             have HI0 := n2_
             have HK := n3_
             have HB := n4_
             clear n0_ n1_ n2_ n3_ n4_
             (try clear hb)
             (try clear hb2)
             (try clear hk)
             (try clear hi)
             (try clear ho0)
             obtain ⟨Ao49, co49, eo49⟩ := Kd.R_slice HO376.out
             (first | subst eo49 | (injection eo49 with f1_ f2_ f3_; have f4_ := f1_.symm; have f5_ := f3_.symm; clear f1_ f2_ f3_; subst f4_; subst f5_))
             have p380 : 0 ≤ (t377 : Int) := of_decide_eq_true za
             have q380 : t377 < (t374.length : Int) := of_decide_eq_true za
             obtain ⟨ad380, e380, hx380_0, hx380_1, hx380_2⟩ := at_T47 (Kd.R_reads' HO376.out).2.2 t377 p380 q380
             cases e380
             replace p380 := eq_true p380
             replace q380 := eq_true q380
             refine hK.out _ _ ⟨HS3_, HS4_, HS5_⟩ (fun hHeld => ?_)
             clear hK K
             refine more_ (S' := fun w' => (spec_l09Draw.c3 w' ad380 t377 t374 ((spec_l09Draw.d3 w' ad373 t370 x3_1)))) (fun _ h_ => ⟨h_.2.2.2.1, h_.2.2.2.2.1, h_.2.2.2.2.2⟩) ⟨hx380_0, hx380_1, hx380_2, hHeld.1, hHeld.2.1, hHeld.2.2⟩ (fun hHeld => ?_)
             refine norm_ (a' := ?_) ?_ ?_
             rotate_left
             ·show Act.put _ (some 33) _ = _
              simp only [Act.put, xA, xB, xC, i64_w, i32_w]
              rfl
             exact norm_ (by first | (simp only [putAll, Act.put, xA, xB, xC]; done) | (simp only [putAll, Act.put, xA, xB, xC]; rfl)) (hJ4_7 ((.slice (some ad380) t374.length co49), ad380) _ ⟨hHeld, (by (with_reducible repeat (first | apply Kd.R_alloc | apply Kd.R_drewN | apply Kd.R_drew)); exact Kd.R_mono HO376.out (fun _ hk => hk.2)), (by (with_reducible repeat (first | apply Kd.R_alloc | apply Kd.R_drewN | apply Kd.R_drew)); exact Kd.R_mono HO_3.out (fun _ hk => hk.2)), (zI92 HI0.out), (zK HK.out), (zs (IsS92.ge HI0.out)), ⟨_, rfl⟩⟩)
            ·skip
             refine box_step ?hg (N := 5) ?hd (cs := #[.int .i64 0, .int .i64 0, .int .i64 0]) (t := 47) ?hr ?_; (case hd => rfl); (case hg => rfl); (case hr => first | (go_simp; done) | (go_simp; rfl))
             intro gb384 hg w48 hbox hb
             have HS3_ := (hb.cell (World.block_lt_of_cell? _ _ (hHeld.1))).trans (hHeld.1)
             have HS4_ := (hb.cell (World.block_lt_of_cell? _ _ (hHeld.2.1))).trans (hHeld.2.1)
             have HS5_ := (hb.cell (World.block_lt_of_cell? _ _ (hHeld.2.2))).trans (hHeld.2.2)
             have n0_ := aM (Kd.R_below (Kd.R_elderB (mR_ HO_3.out) gb384 (Nat.le_of_eq hg.symm)) hb)
             have n1_ := aM (IsS92.below (zI92 HI0.out) hb)
             have n2_ := aM (KeepBut.trans (zK HK.out) (KeepBut.of_below hb g none) (.inl rfl))
             have n3_ := aM (below_step (zs (IsS92.ge HI0.out)) hb)
             have n4_ := aM (hbox)
             have n5_ := aM ((by rw [hg]; exact (keep_size (w := w) (g := g) (row := none) (zK HK.out)) : w.heap.size ≤ gb384))
             have n6_ := aM ((Nat.le_trans HW0.out (by rw [hg]; exact (keep_size (w := w) (g := g) (row := none) (zK HK.out)) : w.heap.size ≤ gb384) : w0.heap.size ≤ gb384))
             have n7_ := aM ((by rw [hg]; exact Nat.ne_of_lt (IsS92.lt (show IsS92 w0 _ g s0_0 t371 t372 from zI92 HI0.out)) : g ≠ gb384))
             have n8_ := aM ((by rw [hg]; exact Nat.ne_of_gt (IsS92.lt (show IsS92 w0 _ g s0_0 t371 t372 from zI92 HI0.out)) : gb384 ≠ g))
             clear HO_3
             clear HI0
             clear HK
             clear HB
             have HO_3 := n0_
             have HI0 := n1_
             have HK := n2_
             have HB := n3_
             have BK384 := n4_
             have GW384 := n5_
             have GE384 := n6_
             have NB0_384 := n7_
             have NB384_0 := n8_
             clear n0_ n1_ n2_ n3_ n4_ n5_ n6_ n7_ n8_
             clear hb hbox hg
             refine hK.out _ _ ⟨HS3_, HS4_, HS5_⟩ (fun hHeld => ?_)
             clear hK K
             refine norm_ (a' := ?_) ?_ ?_
             rotate_left
             ·show Act.put _ (some 5) _ = _
              simp only [Act.put, xA, xB, xC, i64_w, i32_w]
              rfl
             exact norm_ (by first | (simp only [putAll, Act.put, xA, xB, xC]; done) | (simp only [putAll, Act.put, xA, xB, xC]; rfl)) (hJ4_13 (gb384) _ ⟨hHeld, (by (with_reducible repeat (first | apply Kd.R_alloc | apply Kd.R_drewN | apply Kd.R_drew)); exact Kd.R_mono HO_3.out (fun _ hk => hk.2)), (mB_ BK384.out), GW384.out, GE384.out, NB0_384.out, NB384_0.out, (by repeat (first | (with_reducible first | exact HI0.out | apply IsS92.alloc | apply IsS92.drewN | apply IsS92.drew | apply IsS92.set_1 | apply IsS92.set_2 | refine IsS92.far ?_ NB0_384.out _) | exact HI0.out)), (by repeat (first | (with_reducible first | exact HK.out | apply KeepBut.set_ | apply keep_drewN | apply keep_drew | apply keep_alloc | refine keep_far ?_ GW384.out _) | exact HK.out)), (by repeat (first | (with_reducible first | exact HB.out | apply below_alloc | apply pw_below_drewN | apply below_drew1 | refine below_set ?_ (IsS92.ge HI0.out) | refine below_set ?_ GE384.out) | exact HB.out))⟩)
          ·skip
           rintro gb384 w48 ⟨hS_, h0_, h1_, h2_, h3_, h4_, h5_, h6_, h7_, h8_⟩
           have n0_ : Aside0 (Kd.R k47 47 w48 w.heap.size (fun k_ => k_ ≠ gb384) (.slice (some ad373) x3_1.length co45) x3_1) := ⟨h0_⟩
           have n1_ : Aside0 (w48.heap[gb384]? = some (.cells #[.int .i64 0, .int .i64 0, .int .i64 0] 47 (0, 0))) := ⟨h1_⟩
           have n2_ : Aside0 (w.heap.size ≤ gb384) := ⟨h2_⟩
           have n3_ : Aside0 (w0.heap.size ≤ gb384) := ⟨h3_⟩
           have n4_ : Aside0 (g ≠ gb384) := ⟨h4_⟩
           have n5_ : Aside0 (gb384 ≠ g) := ⟨h5_⟩
           have n6_ : Aside0 (IsS92 w0 w48 g s0_0 t371 t372) := ⟨h6_⟩
           have n7_ : Aside0 (KeepBut w w48 g none) := ⟨h7_⟩
           have n8_ : Aside0 (Below w0.heap.size w0 w48) := ⟨h8_⟩
           clear HO_3
           clear HI0
           clear HK
           clear HB
           clear h0_ h1_ h2_ h3_ h4_ h5_ h6_ h7_ h8_
           have HO_3 := n0_
           have BK384 := n1_
           have GW384 := n2_
           have GE384 := n3_
           have NB0_384 := n4_
           have NB384_0 := n5_
           have HI0 := n6_
           have HK := n7_
           have HB := n8_
           clear n0_ n1_ n2_ n3_ n4_ n5_ n6_ n7_ n8_
           have hHeld : (spec_l09Draw.d3 w48 ad373 t370 x3_1) := hS_
           refine norm_ (a' := ?_) ?_ ?_
           rotate_left
           ·simp only [putAll, Act.put, xA, xB, xC]
            rfl
           refine one_ (i := 7) (N := some 33) #[true, true, true, true, true, true, true, true, true, false, false, false, false, true, false] rfl rfl (one_of HT_.out (by kernel_rfl)) (by decide) (fun K hK => ?_)
           refine goes_ Try.func55 (by kernel_rfl) rfl #[] (by rfl) rfl rfl zm ?_
           with_reducible refine (spec_l09Steps.calls  t374 _ A16.out).mono ?_
           rintro e w49 ⟨v375, rfl, ho0, hb⟩
           have HS3_ := (hb.cell (World.block_lt_of_cell? _ _ (hHeld.1))).trans (hHeld.1)
           have HS4_ := (hb.cell (World.block_lt_of_cell? _ _ (hHeld.2.1))).trans (hHeld.2.1)
           have HS5_ := (hb.cell (World.block_lt_of_cell? _ _ (hHeld.2.2))).trans (hHeld.2.2)
           refine ⟨_, rfl, ?_⟩
           have n0_ := aM (Kd.R_elder' (mR_ HO_3.out) (Kd.R_base ho0) hb)
           have n1_ := aM (Kd.R_lower (Kd.R_newB (Kd.R_new' ho0 (Kd.R_lt (mR_ HO_3.out))) (g := gb384) (o := .cells #[.int .i64 0, .int .i64 0, .int .i64 0] 47 (0, 0)) (mB_ BK384.out)) (keep_size (w := w) (g := g) (row := none) (by repeat (first | (with_reducible first | exact HK.out | apply KeepBut.set_ | apply keep_drewN | apply keep_drew | apply keep_alloc | refine keep_far ?_ GW384.out _) | exact HK.out))))
           have n2_ := aM (IsS92.below (by repeat (first | (with_reducible first | exact HI0.out | apply IsS92.alloc | apply IsS92.drewN | apply IsS92.drew | apply IsS92.set_1 | apply IsS92.set_2 | refine IsS92.far ?_ NB0_384.out _) | exact HI0.out)) hb)
           have n3_ := aM (blk_below (g := gb384) (o := .cells #[.int .i64 0, .int .i64 0, .int .i64 0] 47 (0, 0)) (mB_ BK384.out) hb)
           have n4_ := aM (KeepBut.trans (by repeat (first | (with_reducible first | exact HK.out | apply KeepBut.set_ | apply keep_drewN | apply keep_drew | apply keep_alloc | refine keep_far ?_ GW384.out _) | exact HK.out)) (KeepBut.of_below hb g none) (.inl rfl))
           have n5_ := aM (below_step (by repeat (first | (with_reducible first | exact HB.out | apply below_alloc | apply pw_below_drewN | apply below_drew1 | refine below_set ?_ (IsS92.ge HI0.out) | refine below_set ?_ GE384.out) | exact HB.out)) hb)
           clear HO_3
           clear HI0
           clear BK384
           clear HK
           clear HB
           have HO_3 := n0_
           have HO376 := n1_
           have HI0 := n2_
           have BK384 := n3_
           have HK := n4_
           have HB := n5_
           clear n0_ n1_ n2_ n3_ n4_ n5_
           (try clear hb)
           (try clear hb2)
           (try clear hk)
           (try clear hi)
           (try clear ho0)
           obtain ⟨Ao50, co50, eo50⟩ := Kd.R_slice HO376.out
           (first | subst eo50 | (injection eo50 with f1_ f2_ f3_; have f4_ := f1_.symm; have f5_ := f3_.symm; clear f1_ f2_ f3_; subst f4_; subst f5_))
           have p380 : 0 ≤ (t377 : Int) := of_decide_eq_true za
           have q380 : t377 < (t374.length : Int) := of_decide_eq_true za
           obtain ⟨ad380, e380, hx380_0, hx380_1, hx380_2⟩ := at_T47 (Kd.R_reads' HO376.out).2.2 t377 p380 q380
           cases e380
           replace p380 := eq_true p380
           replace q380 := eq_true q380
           refine hK.out _ _ ⟨HS3_, HS4_, HS5_⟩ (fun hHeld => ?_)
           clear hK K
           refine more_ (S' := fun w' => (spec_l09Draw.c3 w' ad380 t377 t374 ((spec_l09Draw.d3 w' ad373 t370 x3_1)))) (fun _ h_ => ⟨h_.2.2.2.1, h_.2.2.2.2.1, h_.2.2.2.2.2⟩) ⟨hx380_0, hx380_1, hx380_2, hHeld.1, hHeld.2.1, hHeld.2.2⟩ (fun hHeld => ?_)
           refine norm_ (a' := ?_) ?_ ?_
           rotate_left
           ·show Act.put _ (some 33) _ = _
            simp only [Act.put, xA, xB, xC, i64_w, i32_w]
            rfl
           exact norm_ (by first | (simp only [putAll, Act.put, xA, xB, xC]; done) | (simp only [putAll, Act.put, xA, xB, xC]; rfl)) (hJ4_7_13 ((.slice (some ad380) t374.length co50, gb384), ad380) _ ⟨hHeld, (by (with_reducible repeat (first | apply Kd.R_alloc | apply Kd.R_drewN | apply Kd.R_drew)); exact Kd.R_mono HO376.out (fun _ hk => ⟨hk.1.2, hk.2⟩)), (by (with_reducible repeat (first | apply Kd.R_alloc | apply Kd.R_drewN | apply Kd.R_drew)); exact Kd.R_mono HO_3.out (fun _ hk => ⟨hk.2, hk.1⟩)), (mB_ BK384.out), GW384.out, GE384.out, NB0_384.out, NB384_0.out, (by repeat (first | (with_reducible first | exact HI0.out | apply IsS92.alloc | apply IsS92.drewN | apply IsS92.drew | apply IsS92.set_1 | apply IsS92.set_2 | refine IsS92.far ?_ NB0_384.out _) | exact HI0.out)), (by repeat (first | (with_reducible first | exact HK.out | apply KeepBut.set_ | apply keep_drewN | apply keep_drew | apply keep_alloc | refine keep_far ?_ GW384.out _) | exact HK.out)), (by repeat (first | (with_reducible first | exact HB.out | apply below_alloc | apply pw_below_drewN | apply below_drew1 | refine below_set ?_ (IsS92.ge HI0.out) | refine below_set ?_ GE384.out) | exact HB.out)), ⟨_, rfl⟩⟩)
         ·skip
          rintro ⟨v375, ad380⟩ w49 ⟨hS_, h0_, h1_, h2_, h3_, h4_, ⟨c9_, hE9_⟩⟩
          replace hE9_ : v375 = Value.slice (some ad380) t374.length c9_ := hE9_
          subst hE9_
          have p380 : 0 ≤ (t377 : Int) := of_decide_eq_true za
          replace p380 := eq_true p380
          have q380 : t377 < (t374.length : Int) := of_decide_eq_true za
          replace q380 := eq_true q380
          refine more_ (S' := fun w' => (spec_l09Draw.c3 w' ad380 t377 t374 ((spec_l09Draw.d3 w' ad373 t370 x3_1)))) (fun _ h_ => h_) hS_ (fun hS_ => ?_)
          have n0_ : Aside0 (Kd.R k47 47 w49 w.heap.size (fun k_ => some k_ ≠ (.slice (some ad373) x3_1.length co45 : Value).ownBlock) (.slice (some ad380) t374.length c9_) t374) := ⟨h0_⟩
          have n1_ : Aside0 (Kd.R k47 47 w49 w.heap.size (fun k_ => some k_ ≠ ((.slice (some ad380) t374.length c9_) : Value).ownBlock) (.slice (some ad373) x3_1.length co45) x3_1) := ⟨h1_⟩
          have n2_ : Aside0 (IsS92 w0 w49 g s0_0 t371 t372) := ⟨h2_⟩
          have n3_ : Aside0 (KeepBut w w49 g none) := ⟨h3_⟩
          have n4_ : Aside0 (Below w0.heap.size w0 w49) := ⟨h4_⟩
          clear HO_3
          clear HI0
          clear HK
          clear HB
          clear h0_ h1_ h2_ h3_ h4_
          have HO376 := n0_
          have HO_3 := n1_
          have HI0 := n2_
          have HK := n3_
          have HB := n4_
          clear n0_ n1_ n2_ n3_ n4_
          have hHeld : (spec_l09Draw.c3 w49 ad380 t377 t374 ((spec_l09Draw.d3 w49 ad373 t370 x3_1))) := hS_
          refine norm_ (a' := ?_) ?_ ?_
          rotate_left
          ·simp only [putAll, Act.put, xA, xB, xC]
           rfl
          refine two_ (i := 9) (j := 13) (Ni := some 35) (Nj := some 5) #[true, true, true, true, true, true, true, true, true, true, false, false, false, false, false] #[true, true, true, true, true, true, true, true, true, false, false, false, false, true, false] rfl rfl rfl rfl (two_of HT_.out (by kernel_rfl)) (by decide) (by decide) (fun K hK => ?_) (fun K hK => ?_)
          ·skip
           refine goes_ Try.func74 (by kernel_rfl) rfl #[.pointer (some ⟨g, 0, none⟩), .int .i64 6] (by rfl) rfl rfl zm ?_
           with_reducible refine (spec_l01Next.calls g s0_0 t371 t372 6 t377 t378 t379 w0 _ ?side1 ?side2 A17.out).mono ?_
           (case side1 => exact zI92 HI0.out)
           (case side2 => exact zs (IsS92.ge HI0.out))
           rintro e w50 ⟨rfl, hi, hb, hk⟩
           have HS0_ := keep_cell hk (hHeld.1) (by first | (rw [add_block]; exact Kd.own_blk (IsS92.own_ne HI0.out HO376.out (by decide))) | (show (Addr.add _ _).block ≠ _; rw [add_block]; exact Kd.own_blk (IsS92.own_ne HI0.out HO376.out (by decide))) | exact Kd.own_blk (IsS92.own_ne HI0.out HO376.out (by decide)))
           have HS1_ := keep_cell hk (hHeld.2.1) (by first | (rw [add_block]; exact Kd.own_blk (IsS92.own_ne HI0.out HO376.out (by decide))) | (show (Addr.add _ _).block ≠ _; rw [add_block]; exact Kd.own_blk (IsS92.own_ne HI0.out HO376.out (by decide))) | exact Kd.own_blk (IsS92.own_ne HI0.out HO376.out (by decide)))
           have HS2_ := keep_cell hk (hHeld.2.2.1) (by first | (rw [add_block]; exact Kd.own_blk (IsS92.own_ne HI0.out HO376.out (by decide))) | (show (Addr.add _ _).block ≠ _; rw [add_block]; exact Kd.own_blk (IsS92.own_ne HI0.out HO376.out (by decide))) | exact Kd.own_blk (IsS92.own_ne HI0.out HO376.out (by decide)))
           have HS3_ := keep_cell hk (hHeld.2.2.2.1) (by first | (rw [add_block]; exact Kd.own_blk (IsS92.own_ne HI0.out HO_3.out (by decide))) | (show (Addr.add _ _).block ≠ _; rw [add_block]; exact Kd.own_blk (IsS92.own_ne HI0.out HO_3.out (by decide))) | exact Kd.own_blk (IsS92.own_ne HI0.out HO_3.out (by decide)))
           have HS4_ := keep_cell hk (hHeld.2.2.2.2.1) (by first | (rw [add_block]; exact Kd.own_blk (IsS92.own_ne HI0.out HO_3.out (by decide))) | (show (Addr.add _ _).block ≠ _; rw [add_block]; exact Kd.own_blk (IsS92.own_ne HI0.out HO_3.out (by decide))) | exact Kd.own_blk (IsS92.own_ne HI0.out HO_3.out (by decide)))
           have HS5_ := keep_cell hk (hHeld.2.2.2.2.2) (by first | (rw [add_block]; exact Kd.own_blk (IsS92.own_ne HI0.out HO_3.out (by decide))) | (show (Addr.add _ _).block ≠ _; rw [add_block]; exact Kd.own_blk (IsS92.own_ne HI0.out HO_3.out (by decide))) | exact Kd.own_blk (IsS92.own_ne HI0.out HO_3.out (by decide)))
           refine ⟨_, rfl, ?_⟩
           have n0_ := aM (Kd.R_mono (Kd.R_keep (IsS92.apart (show IsS92 w0 _ g s0_0 t371 t372 from zI92 HI0.out) (mR_ HO_3.out) (by decide)) hk (fun _ h => h.2)) (fun _ h => h.1))
           have n1_ := aM (Kd.R_mono (Kd.R_keep (IsS92.apart (show IsS92 w0 _ g s0_0 t371 t372 from zI92 HI0.out) (mR_ HO376.out) (by decide)) hk (fun _ h => h.2)) (fun _ h => h.1))
           have n2_ := aM (KeepBut.trans (zK HK.out) hk (.inl rfl))
           have n3_ := aM (hb)
           have n4_ := aM (hi)
           clear HO_3
           clear HO376
           clear HK
           clear HB
           clear HI0
           have HO_3 := n0_
           have HO376 := n1_
           have HK := n2_
           have HB := n3_
           have HI0 := n4_
           clear n0_ n1_ n2_ n3_ n4_
           (try clear hb)
           (try clear hb2)
           (try clear hk)
           (try clear hi)
           refine hK.out _ _ ⟨HS0_, HS1_, HS2_, HS3_, HS4_, HS5_⟩ (fun hHeld => ?_)
           clear hK K
           refine norm_ (a' := ?_) ?_ ?_
           rotate_left
           ·show Act.put _ (some 35) _ = _
            simp only [Act.put, xA, xB, xC, i64_w, i32_w]
            rfl
           refine pure_ (i := 10) (N := some 36) (v := ?_) (a' := ?_) #[true, true, true, true, true, true, true, true, true, true, true, false, false, false, false] rfl rfl zz (fun _ _ _ h => h) (Or.inl ⟨by rfl, ?_⟩) ?_ ?_
           rotate_left
           ·intro w'
            go_simp
            with_reducible rfl
           rotate_left
           ·simp only [Act.put, xA, xB, xC, i64_w, i32_w]
            rfl
           refine take_ (i := 11) (N := some 37) (v := ?_) (a' := ?_) #[true, true, true, true, true, true, true, true, true, true, true, true, false, false, false] rfl rfl (take_ofW HT_.out HW_.out (by kernel_rfl)) (fun _ _ _ h => h) (Or.inl ⟨by rfl, ?_⟩) hHeld ?_ ?_
           rotate_left
           ·rintro w' ⟨s0, s1, s2, s3, s4, s5⟩
            go_simp
            with_reducible rfl
           rotate_left
           ·simp only [Act.put, xA, xB, xC, i64_w, i32_w]
            rfl
           exact norm_ (by first | (simp only [putAll, Act.put, xA, xB, xC]; done) | (simp only [putAll, Act.put, xA, xB, xC]; rfl)) (hJ4_7_9 (((.slice (some ad380) t374.length c9_)), ad380) _ ⟨hHeld, (mR_ HO376.out), (mR_ HO_3.out), (zI92 HI0.out), (zK HK.out), (zs (IsS92.ge HI0.out)), ⟨_, rfl⟩⟩)
          ·skip
           refine box_step ?hg (N := 5) ?hd (cs := #[.int .i64 0, .int .i64 0, .int .i64 0]) (t := 47) ?hr ?_; (case hd => rfl); (case hg => rfl); (case hr => first | (go_simp; done) | (go_simp; rfl))
           intro gb384 hg w50 hbox hb
           have HS0_ := (hb.cell (World.block_lt_of_cell? _ _ (hHeld.1))).trans (hHeld.1)
           have HS1_ := (hb.cell (World.block_lt_of_cell? _ _ (hHeld.2.1))).trans (hHeld.2.1)
           have HS2_ := (hb.cell (World.block_lt_of_cell? _ _ (hHeld.2.2.1))).trans (hHeld.2.2.1)
           have HS3_ := (hb.cell (World.block_lt_of_cell? _ _ (hHeld.2.2.2.1))).trans (hHeld.2.2.2.1)
           have HS4_ := (hb.cell (World.block_lt_of_cell? _ _ (hHeld.2.2.2.2.1))).trans (hHeld.2.2.2.2.1)
           have HS5_ := (hb.cell (World.block_lt_of_cell? _ _ (hHeld.2.2.2.2.2))).trans (hHeld.2.2.2.2.2)
           have n0_ := aM (Kd.R_below (Kd.R_elderB (mR_ HO_3.out) gb384 (Nat.le_of_eq hg.symm)) hb)
           have n1_ := aM (Kd.R_below (Kd.R_elderB (mR_ HO376.out) gb384 (Nat.le_of_eq hg.symm)) hb)
           have n2_ := aM (IsS92.below (zI92 HI0.out) hb)
           have n3_ := aM (KeepBut.trans (zK HK.out) (KeepBut.of_below hb g none) (.inl rfl))
           have n4_ := aM (below_step (zs (IsS92.ge HI0.out)) hb)
           have n5_ := aM (hbox)
           have n6_ := aM ((by rw [hg]; exact (keep_size (w := w) (g := g) (row := none) (zK HK.out)) : w.heap.size ≤ gb384))
           have n7_ := aM ((Nat.le_trans HW0.out (by rw [hg]; exact (keep_size (w := w) (g := g) (row := none) (zK HK.out)) : w.heap.size ≤ gb384) : w0.heap.size ≤ gb384))
           have n8_ := aM ((by rw [hg]; exact Nat.ne_of_lt (IsS92.lt (show IsS92 w0 _ g s0_0 t371 t372 from zI92 HI0.out)) : g ≠ gb384))
           have n9_ := aM ((by rw [hg]; exact Nat.ne_of_gt (IsS92.lt (show IsS92 w0 _ g s0_0 t371 t372 from zI92 HI0.out)) : gb384 ≠ g))
           clear HO_3
           clear HO376
           clear HI0
           clear HK
           clear HB
           have HO_3 := n0_
           have HO376 := n1_
           have HI0 := n2_
           have HK := n3_
           have HB := n4_
           have BK384 := n5_
           have GW384 := n6_
           have GE384 := n7_
           have NB0_384 := n8_
           have NB384_0 := n9_
           clear n0_ n1_ n2_ n3_ n4_ n5_ n6_ n7_ n8_ n9_
           clear hb hbox hg
           refine hK.out _ _ ⟨HS0_, HS1_, HS2_, HS3_, HS4_, HS5_⟩ (fun hHeld => ?_)
           clear hK K
           refine norm_ (a' := ?_) ?_ ?_
           rotate_left
           ·show Act.put _ (some 5) _ = _
            simp only [Act.put, xA, xB, xC, i64_w, i32_w]
            rfl
           exact norm_ (by first | (simp only [putAll, Act.put, xA, xB, xC]; done) | (simp only [putAll, Act.put, xA, xB, xC]; rfl)) (hJ4_7_13 (((.slice (some ad380) t374.length c9_), gb384), ad380) _ ⟨hHeld, (mR_ HO376.out), (mR_ HO_3.out), (mB_ BK384.out), GW384.out, GE384.out, NB0_384.out, NB384_0.out, (by repeat (first | (with_reducible first | exact HI0.out | apply IsS92.alloc | apply IsS92.drewN | apply IsS92.drew | apply IsS92.set_1 | apply IsS92.set_2 | refine IsS92.far ?_ NB0_384.out _) | exact HI0.out)), (by repeat (first | (with_reducible first | exact HK.out | apply KeepBut.set_ | apply keep_drewN | apply keep_drew | apply keep_alloc | refine keep_far ?_ GW384.out _) | exact HK.out)), (by repeat (first | (with_reducible first | exact HB.out | apply below_alloc | apply pw_below_drewN | apply below_drew1 | refine below_set ?_ (IsS92.ge HI0.out) | refine below_set ?_ GE384.out) | exact HB.out)), ⟨_, rfl⟩⟩)
        ·skip
         rintro ⟨⟨v375, gb384⟩, ad380⟩ w50 ⟨hS_, h0_, h1_, h2_, h3_, h4_, h5_, h6_, h7_, h8_, h9_, ⟨c9_, hE9_⟩⟩
         replace hE9_ : v375 = Value.slice (some ad380) t374.length c9_ := hE9_
         subst hE9_
         have p380 : 0 ≤ (t377 : Int) := of_decide_eq_true za
         replace p380 := eq_true p380
         have q380 : t377 < (t374.length : Int) := of_decide_eq_true za
         replace q380 := eq_true q380
         refine more_ (S' := fun w' => (spec_l09Draw.c3 w' ad380 t377 t374 ((spec_l09Draw.d3 w' ad373 t370 x3_1)))) (fun _ h_ => h_) hS_ (fun hS_ => ?_)
         have n0_ : Aside0 (Kd.R k47 47 w50 w.heap.size (fun k_ => some k_ ≠ (.slice (some ad373) x3_1.length co45 : Value).ownBlock ∧ k_ ≠ gb384) (.slice (some ad380) t374.length c9_) t374) := ⟨h0_⟩
         have n1_ : Aside0 (Kd.R k47 47 w50 w.heap.size (fun k_ => some k_ ≠ ((.slice (some ad380) t374.length c9_) : Value).ownBlock ∧ k_ ≠ gb384) (.slice (some ad373) x3_1.length co45) x3_1) := ⟨h1_⟩
         have n2_ : Aside0 (w50.heap[gb384]? = some (.cells #[.int .i64 0, .int .i64 0, .int .i64 0] 47 (0, 0))) := ⟨h2_⟩
         have n3_ : Aside0 (w.heap.size ≤ gb384) := ⟨h3_⟩
         have n4_ : Aside0 (w0.heap.size ≤ gb384) := ⟨h4_⟩
         have n5_ : Aside0 (g ≠ gb384) := ⟨h5_⟩
         have n6_ : Aside0 (gb384 ≠ g) := ⟨h6_⟩
         have n7_ : Aside0 (IsS92 w0 w50 g s0_0 t371 t372) := ⟨h7_⟩
         have n8_ : Aside0 (KeepBut w w50 g none) := ⟨h8_⟩
         have n9_ : Aside0 (Below w0.heap.size w0 w50) := ⟨h9_⟩
         clear HO_3
         clear HI0
         clear HK
         clear HB
         clear h0_ h1_ h2_ h3_ h4_ h5_ h6_ h7_ h8_ h9_
         have HO376 := n0_
         have HO_3 := n1_
         have BK384 := n2_
         have GW384 := n3_
         have GE384 := n4_
         have NB0_384 := n5_
         have NB384_0 := n6_
         have HI0 := n7_
         have HK := n8_
         have HB := n9_
         clear n0_ n1_ n2_ n3_ n4_ n5_ n6_ n7_ n8_ n9_
         have hHeld : (spec_l09Draw.c3 w50 ad380 t377 t374 ((spec_l09Draw.d3 w50 ad373 t370 x3_1))) := hS_
         refine norm_ (a' := ?_) ?_ ?_
         rotate_left
         ·simp only [putAll, Act.put, xA, xB, xC]
          rfl
         refine one_ (i := 9) (N := some 35) #[true, true, true, true, true, true, true, true, true, true, false, false, false, true, false] rfl rfl (one_of HT_.out (by kernel_rfl)) (by decide) (fun K hK => ?_)
         refine goes_ Try.func74 (by kernel_rfl) rfl #[.pointer (some ⟨g, 0, none⟩), .int .i64 6] (by rfl) rfl rfl zm ?_
         with_reducible refine (spec_l01Next.calls g s0_0 t371 t372 6 t377 t378 t379 w0 _ ?side1 ?side2 A17.out).mono ?_
         (case side1 => repeat (first | (with_reducible first | exact HI0.out | apply IsS92.alloc | apply IsS92.drewN | apply IsS92.drew | apply IsS92.set_1 | apply IsS92.set_2 | refine IsS92.far ?_ NB0_384.out _) | exact HI0.out))
         (case side2 => repeat (first | (with_reducible first | exact HB.out | apply below_alloc | apply pw_below_drewN | apply below_drew1 | refine below_set ?_ (IsS92.ge HI0.out) | refine below_set ?_ GE384.out) | exact HB.out))
         rintro e w51 ⟨rfl, hi, hb, hk⟩
         have HS0_ := keep_cell hk (hHeld.1) (by first | (rw [add_block]; exact Kd.own_blk (IsS92.own_ne HI0.out HO376.out (by decide))) | (show (Addr.add _ _).block ≠ _; rw [add_block]; exact Kd.own_blk (IsS92.own_ne HI0.out HO376.out (by decide))) | exact Kd.own_blk (IsS92.own_ne HI0.out HO376.out (by decide)))
         have HS1_ := keep_cell hk (hHeld.2.1) (by first | (rw [add_block]; exact Kd.own_blk (IsS92.own_ne HI0.out HO376.out (by decide))) | (show (Addr.add _ _).block ≠ _; rw [add_block]; exact Kd.own_blk (IsS92.own_ne HI0.out HO376.out (by decide))) | exact Kd.own_blk (IsS92.own_ne HI0.out HO376.out (by decide)))
         have HS2_ := keep_cell hk (hHeld.2.2.1) (by first | (rw [add_block]; exact Kd.own_blk (IsS92.own_ne HI0.out HO376.out (by decide))) | (show (Addr.add _ _).block ≠ _; rw [add_block]; exact Kd.own_blk (IsS92.own_ne HI0.out HO376.out (by decide))) | exact Kd.own_blk (IsS92.own_ne HI0.out HO376.out (by decide)))
         have HS3_ := keep_cell hk (hHeld.2.2.2.1) (by first | (rw [add_block]; exact Kd.own_blk (IsS92.own_ne HI0.out HO_3.out (by decide))) | (show (Addr.add _ _).block ≠ _; rw [add_block]; exact Kd.own_blk (IsS92.own_ne HI0.out HO_3.out (by decide))) | exact Kd.own_blk (IsS92.own_ne HI0.out HO_3.out (by decide)))
         have HS4_ := keep_cell hk (hHeld.2.2.2.2.1) (by first | (rw [add_block]; exact Kd.own_blk (IsS92.own_ne HI0.out HO_3.out (by decide))) | (show (Addr.add _ _).block ≠ _; rw [add_block]; exact Kd.own_blk (IsS92.own_ne HI0.out HO_3.out (by decide))) | exact Kd.own_blk (IsS92.own_ne HI0.out HO_3.out (by decide)))
         have HS5_ := keep_cell hk (hHeld.2.2.2.2.2) (by first | (rw [add_block]; exact Kd.own_blk (IsS92.own_ne HI0.out HO_3.out (by decide))) | (show (Addr.add _ _).block ≠ _; rw [add_block]; exact Kd.own_blk (IsS92.own_ne HI0.out HO_3.out (by decide))) | exact Kd.own_blk (IsS92.own_ne HI0.out HO_3.out (by decide)))
         refine ⟨_, rfl, ?_⟩
         have n0_ := aM (Kd.R_mono (Kd.R_keep (IsS92.apart (show IsS92 w0 _ g s0_0 t371 t372 from by repeat (first | (with_reducible first | exact HI0.out | apply IsS92.alloc | apply IsS92.drewN | apply IsS92.drew | apply IsS92.set_1 | apply IsS92.set_2 | refine IsS92.far ?_ NB0_384.out _) | exact HI0.out)) (mR_ HO_3.out) (by decide)) hk (fun _ h => h.2)) (fun _ h => h.1))
         have n1_ := aM (Kd.R_mono (Kd.R_keep (IsS92.apart (show IsS92 w0 _ g s0_0 t371 t372 from by repeat (first | (with_reducible first | exact HI0.out | apply IsS92.alloc | apply IsS92.drewN | apply IsS92.drew | apply IsS92.set_1 | apply IsS92.set_2 | refine IsS92.far ?_ NB0_384.out _) | exact HI0.out)) (mR_ HO376.out) (by decide)) hk (fun _ h => h.2)) (fun _ h => h.1))
         have n2_ := aM (KeepBut.blk hk (g' := gb384) (o := .cells #[.int .i64 0, .int .i64 0, .int .i64 0] 47 (0, 0)) (mB_ BK384.out) NB384_0.out (by simp))
         have n3_ := aM (KeepBut.trans (by repeat (first | (with_reducible first | exact HK.out | apply KeepBut.set_ | apply keep_drewN | apply keep_drew | apply keep_alloc | refine keep_far ?_ GW384.out _) | exact HK.out)) hk (.inl rfl))
         have n4_ := aM (hb)
         have n5_ := aM (hi)
         clear HO_3
         clear HO376
         clear BK384
         clear HK
         clear HB
         clear HI0
         have HO_3 := n0_
         have HO376 := n1_
         have BK384 := n2_
         have HK := n3_
         have HB := n4_
         have HI0 := n5_
         clear n0_ n1_ n2_ n3_ n4_ n5_
         (try clear hb)
         (try clear hb2)
         (try clear hk)
         (try clear hi)
         refine hK.out _ _ ⟨HS0_, HS1_, HS2_, HS3_, HS4_, HS5_⟩ (fun hHeld => ?_)
         clear hK K
         refine norm_ (a' := ?_) ?_ ?_
         rotate_left
         ·show Act.put _ (some 35) _ = _
          simp only [Act.put, xA, xB, xC, i64_w, i32_w]
          rfl
         refine pure_ (i := 10) (N := some 36) (v := ?_) (a' := ?_) #[true, true, true, true, true, true, true, true, true, true, true, false, false, true, false] rfl rfl zz (fun _ _ _ h => h) (Or.inl ⟨by rfl, ?_⟩) ?_ ?_
         rotate_left
         ·intro w'
          go_simp
          with_reducible rfl
         rotate_left
         ·simp only [Act.put, xA, xB, xC, i64_w, i32_w]
          rfl
         refine take_ (i := 11) (N := some 37) (v := ?_) (a' := ?_) #[true, true, true, true, true, true, true, true, true, true, true, true, false, true, false] rfl rfl (take_ofW HT_.out HW_.out (by kernel_rfl)) (fun _ _ _ h => h) (Or.inl ⟨by rfl, ?_⟩) hHeld ?_ ?_
         rotate_left
         ·rintro w' ⟨s0, s1, s2, s3, s4, s5⟩
          go_simp
          with_reducible rfl
         rotate_left
         ·simp only [Act.put, xA, xB, xC, i64_w, i32_w]
          rfl
         exact norm_ (by first | (simp only [putAll, Act.put, xA, xB, xC]; done) | (simp only [putAll, Act.put, xA, xB, xC]; rfl)) (hJ4_7_9_13 (((.slice (some ad380) t374.length c9_), gb384), ad380) _ ⟨hHeld, (mR_ HO376.out), (mR_ HO_3.out), (mB_ BK384.out), GW384.out, GE384.out, NB0_384.out, NB384_0.out, (by repeat (first | (with_reducible first | exact HI0.out | apply IsS92.alloc | apply IsS92.drewN | apply IsS92.drew | apply IsS92.set_1 | apply IsS92.set_2 | refine IsS92.far ?_ NB0_384.out _) | exact HI0.out)), (by repeat (first | (with_reducible first | exact HK.out | apply KeepBut.set_ | apply keep_drewN | apply keep_drew | apply keep_alloc | refine keep_far ?_ GW384.out _) | exact HK.out)), (by repeat (first | (with_reducible first | exact HB.out | apply below_alloc | apply pw_below_drewN | apply below_drew1 | refine below_set ?_ (IsS92.ge HI0.out) | refine below_set ?_ GE384.out) | exact HB.out)), ⟨_, rfl⟩⟩)
       ·skip
        rintro ⟨v375, ad380⟩ w50 ⟨hS_, h0_, h1_, h2_, h3_, h4_, ⟨c9_, hE9_⟩⟩
        replace hE9_ : v375 = Value.slice (some ad380) t374.length c9_ := hE9_
        subst hE9_
        have p380 : 0 ≤ (t377 : Int) := of_decide_eq_true za
        replace p380 := eq_true p380
        have q380 : t377 < (t374.length : Int) := of_decide_eq_true za
        replace q380 := eq_true q380
        refine more_ (S' := fun w' => (spec_l09Draw.c3 w' ad380 t377 t374 ((spec_l09Draw.d3 w' ad373 t370 x3_1)))) (fun _ h_ => h_) hS_ (fun hS_ => ?_)
        have n0_ : Aside0 (Kd.R k47 47 w50 w.heap.size (fun k_ => some k_ ≠ (.slice (some ad373) x3_1.length co45 : Value).ownBlock) (.slice (some ad380) t374.length c9_) t374) := ⟨h0_⟩
        have n1_ : Aside0 (Kd.R k47 47 w50 w.heap.size (fun k_ => some k_ ≠ ((.slice (some ad380) t374.length c9_) : Value).ownBlock) (.slice (some ad373) x3_1.length co45) x3_1) := ⟨h1_⟩
        have n2_ : Aside0 (IsS92 w0 w50 g s0_0 t378 t379) := ⟨h2_⟩
        have n3_ : Aside0 (KeepBut w w50 g none) := ⟨h3_⟩
        have n4_ : Aside0 (Below w0.heap.size w0 w50) := ⟨h4_⟩
        clear HO_3
        clear HI0
        clear HK
        clear HB
        clear h0_ h1_ h2_ h3_ h4_
        have HO376 := n0_
        have HO_3 := n1_
        have HI0 := n2_
        have HK := n3_
        have HB := n4_
        clear n0_ n1_ n2_ n3_ n4_
        have hHeld : (spec_l09Draw.c3 w50 ad380 t377 t374 ((spec_l09Draw.d3 w50 ad373 t370 x3_1))) := hS_
        refine norm_ (a' := ?_) ?_ ?_
        rotate_left
        ·simp only [putAll, Act.put, xA, xB, xC]
         rfl
        refine two_ (i := 12) (j := 13) (Ni := some 38) (Nj := some 5) #[true, true, true, true, true, true, true, true, true, true, true, true, true, false, false] #[true, true, true, true, true, true, true, true, true, true, true, true, false, true, false] rfl rfl rfl rfl (two_of HT_.out (by kernel_rfl)) (by decide) (by decide) (fun K hK => ?_) (fun K hK => ?_)
        ·skip
         refine goes_ Try.func54 (by kernel_rfl) rfl #[.agg #[.int .i64 ((rd_T47 x3_1 t370).f0), .int .i64 ((rd_T47 x3_1 t370).f1), .int .i64 ((rd_T47 x3_1 t370).f2)], .agg #[.int .i64 ((rd_T47 t374 t377).f0), .int .i64 ((rd_T47 t374 t377).f1), .int .i64 ((rd_T47 t374 t377).f2)]] (by rfl) rfl rfl zm ?_
         with_reducible refine (spec_l09Add.calls ((rd_T47 x3_1 t370).f0) ((rd_T47 x3_1 t370).f1) ((rd_T47 x3_1 t370).f2) ((rd_T47 t374 t377).f0) ((rd_T47 t374 t377).f1) ((rd_T47 t374 t377).f2) t381 t382 t383 _ A20.out).mono ?_
         rintro e w51 ⟨rfl, hb⟩
         have HS0_ := (hb.cell (World.block_lt_of_cell? _ _ (hHeld.1))).trans (hHeld.1)
         have HS1_ := (hb.cell (World.block_lt_of_cell? _ _ (hHeld.2.1))).trans (hHeld.2.1)
         have HS2_ := (hb.cell (World.block_lt_of_cell? _ _ (hHeld.2.2.1))).trans (hHeld.2.2.1)
         have HS3_ := (hb.cell (World.block_lt_of_cell? _ _ (hHeld.2.2.2.1))).trans (hHeld.2.2.2.1)
         have HS4_ := (hb.cell (World.block_lt_of_cell? _ _ (hHeld.2.2.2.2.1))).trans (hHeld.2.2.2.2.1)
         have HS5_ := (hb.cell (World.block_lt_of_cell? _ _ (hHeld.2.2.2.2.2))).trans (hHeld.2.2.2.2.2)
         refine ⟨_, rfl, ?_⟩
         have n0_ := aM (Kd.R_below (mR_ HO_3.out) hb)
         have n1_ := aM (Kd.R_below (mR_ HO376.out) hb)
         have n2_ := aM (IsS92.below (zI92 HI0.out) hb)
         have n3_ := aM (KeepBut.trans (zK HK.out) (KeepBut.of_below hb g none) (.inl rfl))
         have n4_ := aM (below_step (zs (IsS92.ge HI0.out)) hb)
         clear HO_3
         clear HO376
         clear HI0
         clear HK
         clear HB
         have HO_3 := n0_
         have HO376 := n1_
         have HI0 := n2_
         have HK := n3_
         have HB := n4_
         clear n0_ n1_ n2_ n3_ n4_
         (try clear hb)
         (try clear hb2)
         (try clear hk)
         (try clear hi)
         refine hK.out _ _ ⟨HS0_, HS1_, HS2_, HS3_, HS4_, HS5_⟩ (fun hHeld => ?_)
         clear hK K
         refine norm_ (a' := ?_) ?_ ?_
         rotate_left
         ·show Act.put _ (some 38) _ = _
          simp only [Act.put, xA, xB, xC, i64_w, i32_w]
          rfl
         exact norm_ (by first | (simp only [putAll, Act.put, xA, xB, xC]; done) | (simp only [putAll, Act.put, xA, xB, xC]; rfl)) (hJ4_7_9_12 (((.slice (some ad380) t374.length c9_)), ad380) _ ⟨hHeld, (mR_ HO376.out), (mR_ HO_3.out), (zI92 HI0.out), (zK HK.out), (zs (IsS92.ge HI0.out)), ⟨_, rfl⟩⟩)
        ·skip
         refine box_step ?hg (N := 5) ?hd (cs := #[.int .i64 0, .int .i64 0, .int .i64 0]) (t := 47) ?hr ?_; (case hd => rfl); (case hg => rfl); (case hr => first | (go_simp; done) | (go_simp; rfl))
         intro gb384 hg w51 hbox hb
         have HS0_ := (hb.cell (World.block_lt_of_cell? _ _ (hHeld.1))).trans (hHeld.1)
         have HS1_ := (hb.cell (World.block_lt_of_cell? _ _ (hHeld.2.1))).trans (hHeld.2.1)
         have HS2_ := (hb.cell (World.block_lt_of_cell? _ _ (hHeld.2.2.1))).trans (hHeld.2.2.1)
         have HS3_ := (hb.cell (World.block_lt_of_cell? _ _ (hHeld.2.2.2.1))).trans (hHeld.2.2.2.1)
         have HS4_ := (hb.cell (World.block_lt_of_cell? _ _ (hHeld.2.2.2.2.1))).trans (hHeld.2.2.2.2.1)
         have HS5_ := (hb.cell (World.block_lt_of_cell? _ _ (hHeld.2.2.2.2.2))).trans (hHeld.2.2.2.2.2)
         have n0_ := aM (Kd.R_below (Kd.R_elderB (mR_ HO_3.out) gb384 (Nat.le_of_eq hg.symm)) hb)
         have n1_ := aM (Kd.R_below (Kd.R_elderB (mR_ HO376.out) gb384 (Nat.le_of_eq hg.symm)) hb)
         have n2_ := aM (IsS92.below (zI92 HI0.out) hb)
         have n3_ := aM (KeepBut.trans (zK HK.out) (KeepBut.of_below hb g none) (.inl rfl))
         have n4_ := aM (below_step (zs (IsS92.ge HI0.out)) hb)
         have n5_ := aM (hbox)
         have n6_ := aM ((by rw [hg]; exact (keep_size (w := w) (g := g) (row := none) (zK HK.out)) : w.heap.size ≤ gb384))
         have n7_ := aM ((Nat.le_trans HW0.out (by rw [hg]; exact (keep_size (w := w) (g := g) (row := none) (zK HK.out)) : w.heap.size ≤ gb384) : w0.heap.size ≤ gb384))
         have n8_ := aM ((by rw [hg]; exact Nat.ne_of_lt (IsS92.lt (show IsS92 w0 _ g s0_0 t378 t379 from zI92 HI0.out)) : g ≠ gb384))
         have n9_ := aM ((by rw [hg]; exact Nat.ne_of_gt (IsS92.lt (show IsS92 w0 _ g s0_0 t378 t379 from zI92 HI0.out)) : gb384 ≠ g))
         clear HO_3
         clear HO376
         clear HI0
         clear HK
         clear HB
         have HO_3 := n0_
         have HO376 := n1_
         have HI0 := n2_
         have HK := n3_
         have HB := n4_
         have BK384 := n5_
         have GW384 := n6_
         have GE384 := n7_
         have NB0_384 := n8_
         have NB384_0 := n9_
         clear n0_ n1_ n2_ n3_ n4_ n5_ n6_ n7_ n8_ n9_
         clear hb hbox hg
         refine hK.out _ _ ⟨HS0_, HS1_, HS2_, HS3_, HS4_, HS5_⟩ (fun hHeld => ?_)
         clear hK K
         refine norm_ (a' := ?_) ?_ ?_
         rotate_left
         ·show Act.put _ (some 5) _ = _
          simp only [Act.put, xA, xB, xC, i64_w, i32_w]
          rfl
         exact norm_ (by first | (simp only [putAll, Act.put, xA, xB, xC]; done) | (simp only [putAll, Act.put, xA, xB, xC]; rfl)) (hJ4_7_9_13 (((.slice (some ad380) t374.length c9_), gb384), ad380) _ ⟨hHeld, (mR_ HO376.out), (mR_ HO_3.out), (mB_ BK384.out), GW384.out, GE384.out, NB0_384.out, NB384_0.out, (by repeat (first | (with_reducible first | exact HI0.out | apply IsS92.alloc | apply IsS92.drewN | apply IsS92.drew | apply IsS92.set_1 | apply IsS92.set_2 | refine IsS92.far ?_ NB0_384.out _) | exact HI0.out)), (by repeat (first | (with_reducible first | exact HK.out | apply KeepBut.set_ | apply keep_drewN | apply keep_drew | apply keep_alloc | refine keep_far ?_ GW384.out _) | exact HK.out)), (by repeat (first | (with_reducible first | exact HB.out | apply below_alloc | apply pw_below_drewN | apply below_drew1 | refine below_set ?_ (IsS92.ge HI0.out) | refine below_set ?_ GE384.out) | exact HB.out)), ⟨_, rfl⟩⟩)
      ·skip
       rintro ⟨⟨v375, gb384⟩, ad380⟩ w51 ⟨hS_, h0_, h1_, h2_, h3_, h4_, h5_, h6_, h7_, h8_, h9_, ⟨c9_, hE9_⟩⟩
       replace hE9_ : v375 = Value.slice (some ad380) t374.length c9_ := hE9_
       subst hE9_
       have p380 : 0 ≤ (t377 : Int) := of_decide_eq_true za
       replace p380 := eq_true p380
       have q380 : t377 < (t374.length : Int) := of_decide_eq_true za
       replace q380 := eq_true q380
       refine more_ (S' := fun w' => (spec_l09Draw.c3 w' ad380 t377 t374 ((spec_l09Draw.d3 w' ad373 t370 x3_1)))) (fun _ h_ => h_) hS_ (fun hS_ => ?_)
       have n0_ : Aside0 (Kd.R k47 47 w51 w.heap.size (fun k_ => some k_ ≠ (.slice (some ad373) x3_1.length co45 : Value).ownBlock ∧ k_ ≠ gb384) (.slice (some ad380) t374.length c9_) t374) := ⟨h0_⟩
       have n1_ : Aside0 (Kd.R k47 47 w51 w.heap.size (fun k_ => some k_ ≠ ((.slice (some ad380) t374.length c9_) : Value).ownBlock ∧ k_ ≠ gb384) (.slice (some ad373) x3_1.length co45) x3_1) := ⟨h1_⟩
       have n2_ : Aside0 (w51.heap[gb384]? = some (.cells #[.int .i64 0, .int .i64 0, .int .i64 0] 47 (0, 0))) := ⟨h2_⟩
       have n3_ : Aside0 (w.heap.size ≤ gb384) := ⟨h3_⟩
       have n4_ : Aside0 (w0.heap.size ≤ gb384) := ⟨h4_⟩
       have n5_ : Aside0 (g ≠ gb384) := ⟨h5_⟩
       have n6_ : Aside0 (gb384 ≠ g) := ⟨h6_⟩
       have n7_ : Aside0 (IsS92 w0 w51 g s0_0 t378 t379) := ⟨h7_⟩
       have n8_ : Aside0 (KeepBut w w51 g none) := ⟨h8_⟩
       have n9_ : Aside0 (Below w0.heap.size w0 w51) := ⟨h9_⟩
       clear HO_3
       clear HI0
       clear HK
       clear HB
       clear h0_ h1_ h2_ h3_ h4_ h5_ h6_ h7_ h8_ h9_
       have HO376 := n0_
       have HO_3 := n1_
       have BK384 := n2_
       have GW384 := n3_
       have GE384 := n4_
       have NB0_384 := n5_
       have NB384_0 := n6_
       have HI0 := n7_
       have HK := n8_
       have HB := n9_
       clear n0_ n1_ n2_ n3_ n4_ n5_ n6_ n7_ n8_ n9_
       have hHeld : (spec_l09Draw.c3 w51 ad380 t377 t374 ((spec_l09Draw.d3 w51 ad373 t370 x3_1))) := hS_
       refine norm_ (a' := ?_) ?_ ?_
       rotate_left
       ·simp only [putAll, Act.put, xA, xB, xC]
        rfl
       refine one_ (i := 12) (N := some 38) #[true, true, true, true, true, true, true, true, true, true, true, true, true, true, false] rfl rfl (one_of HT_.out (by kernel_rfl)) (by decide) (fun K hK => ?_)
       refine goes_ Try.func54 (by kernel_rfl) rfl #[.agg #[.int .i64 ((rd_T47 x3_1 t370).f0), .int .i64 ((rd_T47 x3_1 t370).f1), .int .i64 ((rd_T47 x3_1 t370).f2)], .agg #[.int .i64 ((rd_T47 t374 t377).f0), .int .i64 ((rd_T47 t374 t377).f1), .int .i64 ((rd_T47 t374 t377).f2)]] (by rfl) rfl rfl zm ?_
       with_reducible refine (spec_l09Add.calls ((rd_T47 x3_1 t370).f0) ((rd_T47 x3_1 t370).f1) ((rd_T47 x3_1 t370).f2) ((rd_T47 t374 t377).f0) ((rd_T47 t374 t377).f1) ((rd_T47 t374 t377).f2) t381 t382 t383 _ A20.out).mono ?_
       rintro e w52 ⟨rfl, hb⟩
       have HS0_ := (hb.cell (World.block_lt_of_cell? _ _ (hHeld.1))).trans (hHeld.1)
       have HS1_ := (hb.cell (World.block_lt_of_cell? _ _ (hHeld.2.1))).trans (hHeld.2.1)
       have HS2_ := (hb.cell (World.block_lt_of_cell? _ _ (hHeld.2.2.1))).trans (hHeld.2.2.1)
       have HS3_ := (hb.cell (World.block_lt_of_cell? _ _ (hHeld.2.2.2.1))).trans (hHeld.2.2.2.1)
       have HS4_ := (hb.cell (World.block_lt_of_cell? _ _ (hHeld.2.2.2.2.1))).trans (hHeld.2.2.2.2.1)
       have HS5_ := (hb.cell (World.block_lt_of_cell? _ _ (hHeld.2.2.2.2.2))).trans (hHeld.2.2.2.2.2)
       refine ⟨_, rfl, ?_⟩
       have n0_ := aM (Kd.R_below (mR_ HO_3.out) hb)
       have n1_ := aM (Kd.R_below (mR_ HO376.out) hb)
       have n2_ := aM (IsS92.below (by repeat (first | (with_reducible first | exact HI0.out | apply IsS92.alloc | apply IsS92.drewN | apply IsS92.drew | apply IsS92.set_1 | apply IsS92.set_2 | refine IsS92.far ?_ NB0_384.out _) | exact HI0.out)) hb)
       have n3_ := aM (blk_below (g := gb384) (o := .cells #[.int .i64 0, .int .i64 0, .int .i64 0] 47 (0, 0)) (mB_ BK384.out) hb)
       have n4_ := aM (KeepBut.trans (by repeat (first | (with_reducible first | exact HK.out | apply KeepBut.set_ | apply keep_drewN | apply keep_drew | apply keep_alloc | refine keep_far ?_ GW384.out _) | exact HK.out)) (KeepBut.of_below hb g none) (.inl rfl))
       have n5_ := aM (below_step (by repeat (first | (with_reducible first | exact HB.out | apply below_alloc | apply pw_below_drewN | apply below_drew1 | refine below_set ?_ (IsS92.ge HI0.out) | refine below_set ?_ GE384.out) | exact HB.out)) hb)
       clear HO_3
       clear HO376
       clear HI0
       clear BK384
       clear HK
       clear HB
       have HO_3 := n0_
       have HO376 := n1_
       have HI0 := n2_
       have BK384 := n3_
       have HK := n4_
       have HB := n5_
       clear n0_ n1_ n2_ n3_ n4_ n5_
       (try clear hb)
       (try clear hb2)
       (try clear hk)
       (try clear hi)
       refine hK.out _ _ ⟨HS0_, HS1_, HS2_, HS3_, HS4_, HS5_⟩ (fun hHeld => ?_)
       clear hK K
       refine norm_ (a' := ?_) ?_ ?_
       rotate_left
       ·show Act.put _ (some 38) _ = _
        simp only [Act.put, xA, xB, xC, i64_w, i32_w]
        rfl
       exact norm_ (by first | (simp only [putAll, Act.put, xA, xB, xC]; done) | (simp only [putAll, Act.put, xA, xB, xC]; rfl)) (hJ4_7_9_12_13 (((.slice (some ad380) t374.length c9_), gb384), ad380) _ ⟨hHeld, (mR_ HO376.out), (mR_ HO_3.out), (mB_ BK384.out), GW384.out, GE384.out, NB0_384.out, NB384_0.out, (by repeat (first | (with_reducible first | exact HI0.out | apply IsS92.alloc | apply IsS92.drewN | apply IsS92.drew | apply IsS92.set_1 | apply IsS92.set_2 | refine IsS92.far ?_ NB0_384.out _) | exact HI0.out)), (by repeat (first | (with_reducible first | exact HK.out | apply KeepBut.set_ | apply keep_drewN | apply keep_drew | apply keep_alloc | refine keep_far ?_ GW384.out _) | exact HK.out)), (by repeat (first | (with_reducible first | exact HB.out | apply below_alloc | apply pw_below_drewN | apply below_drew1 | refine below_set ?_ (IsS92.ge HI0.out) | refine below_set ?_ GE384.out) | exact HB.out)), ⟨_, rfl⟩⟩)
     ·skip
      rintro ⟨v375, ad380⟩ w51 ⟨hS_, h0_, h1_, h2_, h3_, h4_, ⟨c9_, hE9_⟩⟩
      replace hE9_ : v375 = Value.slice (some ad380) t374.length c9_ := hE9_
      subst hE9_
      have p380 : 0 ≤ (t377 : Int) := of_decide_eq_true za
      replace p380 := eq_true p380
      have q380 : t377 < (t374.length : Int) := of_decide_eq_true za
      replace q380 := eq_true q380
      refine more_ (S' := fun w' => (spec_l09Draw.c3 w' ad380 t377 t374 ((spec_l09Draw.d3 w' ad373 t370 x3_1)))) (fun _ h_ => h_) hS_ (fun hS_ => ?_)
      have n0_ : Aside0 (Kd.R k47 47 w51 w.heap.size (fun k_ => some k_ ≠ (.slice (some ad373) x3_1.length co45 : Value).ownBlock) (.slice (some ad380) t374.length c9_) t374) := ⟨h0_⟩
      have n1_ : Aside0 (Kd.R k47 47 w51 w.heap.size (fun k_ => some k_ ≠ ((.slice (some ad380) t374.length c9_) : Value).ownBlock) (.slice (some ad373) x3_1.length co45) x3_1) := ⟨h1_⟩
      have n2_ : Aside0 (IsS92 w0 w51 g s0_0 t378 t379) := ⟨h2_⟩
      have n3_ : Aside0 (KeepBut w w51 g none) := ⟨h3_⟩
      have n4_ : Aside0 (Below w0.heap.size w0 w51) := ⟨h4_⟩
      clear HO_3
      clear HI0
      clear HK
      clear HB
      clear h0_ h1_ h2_ h3_ h4_
      have HO376 := n0_
      have HO_3 := n1_
      have HI0 := n2_
      have HK := n3_
      have HB := n4_
      clear n0_ n1_ n2_ n3_ n4_
      have hHeld : (spec_l09Draw.c3 w51 ad380 t377 t374 ((spec_l09Draw.d3 w51 ad373 t370 x3_1))) := hS_
      refine norm_ (a' := ?_) ?_ ?_
      rotate_left
      ·simp only [putAll, Act.put, xA, xB, xC]
       rfl
      refine one_ (i := 13) (N := some 5) #[true, true, true, true, true, true, true, true, true, true, true, true, true, true, false] rfl rfl (one_of HT_.out (by kernel_rfl)) (by decide) (fun K hK => ?_)
      refine box_step ?hg (N := 5) ?hd (cs := #[.int .i64 0, .int .i64 0, .int .i64 0]) (t := 47) ?hr ?_; (case hd => rfl); (case hg => rfl); (case hr => first | (go_simp; done) | (go_simp; rfl))
      intro gb384 hg w52 hbox hb
      have HS0_ := (hb.cell (World.block_lt_of_cell? _ _ (hHeld.1))).trans (hHeld.1)
      have HS1_ := (hb.cell (World.block_lt_of_cell? _ _ (hHeld.2.1))).trans (hHeld.2.1)
      have HS2_ := (hb.cell (World.block_lt_of_cell? _ _ (hHeld.2.2.1))).trans (hHeld.2.2.1)
      have HS3_ := (hb.cell (World.block_lt_of_cell? _ _ (hHeld.2.2.2.1))).trans (hHeld.2.2.2.1)
      have HS4_ := (hb.cell (World.block_lt_of_cell? _ _ (hHeld.2.2.2.2.1))).trans (hHeld.2.2.2.2.1)
      have HS5_ := (hb.cell (World.block_lt_of_cell? _ _ (hHeld.2.2.2.2.2))).trans (hHeld.2.2.2.2.2)
      have n0_ := aM (Kd.R_below (Kd.R_elderB (mR_ HO_3.out) gb384 (Nat.le_of_eq hg.symm)) hb)
      have n1_ := aM (Kd.R_below (Kd.R_elderB (mR_ HO376.out) gb384 (Nat.le_of_eq hg.symm)) hb)
      have n2_ := aM (IsS92.below (zI92 HI0.out) hb)
      have n3_ := aM (KeepBut.trans (zK HK.out) (KeepBut.of_below hb g none) (.inl rfl))
      have n4_ := aM (below_step (zs (IsS92.ge HI0.out)) hb)
      have n5_ := aM (hbox)
      have n6_ := aM ((by rw [hg]; exact (keep_size (w := w) (g := g) (row := none) (zK HK.out)) : w.heap.size ≤ gb384))
      have n7_ := aM ((Nat.le_trans HW0.out (by rw [hg]; exact (keep_size (w := w) (g := g) (row := none) (zK HK.out)) : w.heap.size ≤ gb384) : w0.heap.size ≤ gb384))
      have n8_ := aM ((by rw [hg]; exact Nat.ne_of_lt (IsS92.lt (show IsS92 w0 _ g s0_0 t378 t379 from zI92 HI0.out)) : g ≠ gb384))
      have n9_ := aM ((by rw [hg]; exact Nat.ne_of_gt (IsS92.lt (show IsS92 w0 _ g s0_0 t378 t379 from zI92 HI0.out)) : gb384 ≠ g))
      clear HO_3
      clear HO376
      clear HI0
      clear HK
      clear HB
      have HO_3 := n0_
      have HO376 := n1_
      have HI0 := n2_
      have HK := n3_
      have HB := n4_
      have BK384 := n5_
      have GW384 := n6_
      have GE384 := n7_
      have NB0_384 := n8_
      have NB384_0 := n9_
      clear n0_ n1_ n2_ n3_ n4_ n5_ n6_ n7_ n8_ n9_
      clear hb hbox hg
      refine hK.out _ _ ⟨HS0_, HS1_, HS2_, HS3_, HS4_, HS5_⟩ (fun hHeld => ?_)
      clear hK K
      refine norm_ (a' := ?_) ?_ ?_
      rotate_left
      ·show Act.put _ (some 5) _ = _
       simp only [Act.put, xA, xB, xC, i64_w, i32_w]
       rfl
      exact norm_ (by first | (simp only [putAll, Act.put, xA, xB, xC]; done) | (simp only [putAll, Act.put, xA, xB, xC]; rfl)) (hJ4_7_9_12_13 (((.slice (some ad380) t374.length c9_), gb384), ad380) _ ⟨hHeld, (mR_ HO376.out), (mR_ HO_3.out), (mB_ BK384.out), GW384.out, GE384.out, NB0_384.out, NB384_0.out, (by repeat (first | (with_reducible first | exact HI0.out | apply IsS92.alloc | apply IsS92.drewN | apply IsS92.drew | apply IsS92.set_1 | apply IsS92.set_2 | refine IsS92.far ?_ NB0_384.out _) | exact HI0.out)), (by repeat (first | (with_reducible first | exact HK.out | apply KeepBut.set_ | apply keep_drewN | apply keep_drew | apply keep_alloc | refine keep_far ?_ GW384.out _) | exact HK.out)), (by repeat (first | (with_reducible first | exact HB.out | apply below_alloc | apply pw_below_drewN | apply below_drew1 | refine below_set ?_ (IsS92.ge HI0.out) | refine below_set ?_ GE384.out) | exact HB.out)), ⟨_, rfl⟩⟩)
    rintro ⟨⟨v375, gb384⟩, ad380⟩ w52 ⟨hS_, h0_, h1_, h2_, h3_, h4_, h5_, h6_, h7_, h8_, h9_, ⟨c9_, hE9_⟩⟩
    replace hE9_ : v375 = Value.slice (some ad380) t374.length c9_ := hE9_
    subst hE9_
    have p380 : 0 ≤ (t377 : Int) := of_decide_eq_true za
    replace p380 := eq_true p380
    have q380 : t377 < (t374.length : Int) := of_decide_eq_true za
    replace q380 := eq_true q380
    refine more_ (S' := fun w' => (spec_l09Draw.c3 w' ad380 t377 t374 ((spec_l09Draw.d3 w' ad373 t370 x3_1)))) (fun _ h_ => h_) hS_ (fun hS_ => ?_)
    have n0_ : Aside0 (Kd.R k47 47 w52 w.heap.size (fun k_ => some k_ ≠ (.slice (some ad373) x3_1.length co45 : Value).ownBlock ∧ k_ ≠ gb384) (.slice (some ad380) t374.length c9_) t374) := ⟨h0_⟩
    have n1_ : Aside0 (Kd.R k47 47 w52 w.heap.size (fun k_ => some k_ ≠ ((.slice (some ad380) t374.length c9_) : Value).ownBlock ∧ k_ ≠ gb384) (.slice (some ad373) x3_1.length co45) x3_1) := ⟨h1_⟩
    have n2_ : Aside0 (w52.heap[gb384]? = some (.cells #[.int .i64 0, .int .i64 0, .int .i64 0] 47 (0, 0))) := ⟨h2_⟩
    have n3_ : Aside0 (w.heap.size ≤ gb384) := ⟨h3_⟩
    have n4_ : Aside0 (w0.heap.size ≤ gb384) := ⟨h4_⟩
    have n5_ : Aside0 (g ≠ gb384) := ⟨h5_⟩
    have n6_ : Aside0 (gb384 ≠ g) := ⟨h6_⟩
    have n7_ : Aside0 (IsS92 w0 w52 g s0_0 t378 t379) := ⟨h7_⟩
    have n8_ : Aside0 (KeepBut w w52 g none) := ⟨h8_⟩
    have n9_ : Aside0 (Below w0.heap.size w0 w52) := ⟨h9_⟩
    clear HO_3
    clear HI0
    clear HK
    clear HB
    clear h0_ h1_ h2_ h3_ h4_ h5_ h6_ h7_ h8_ h9_
    have HO376 := n0_
    have HO_3 := n1_
    have BK384 := n2_
    have GW384 := n3_
    have GE384 := n4_
    have NB0_384 := n5_
    have NB384_0 := n6_
    have HI0 := n7_
    have HK := n8_
    have HB := n9_
    clear n0_ n1_ n2_ n3_ n4_ n5_ n6_ n7_ n8_ n9_
    have hHeld : (spec_l09Draw.c3 w52 ad380 t377 t374 ((spec_l09Draw.d3 w52 ad373 t370 x3_1))) := hS_
    refine norm_ (a' := ?_) ?_ ?_
    rotate_left
    ·simp only [putAll, Act.put, xA, xB, xC]
     rfl
    refine one_ (i := 14) (N := none) #[true, true, true, true, true, true, true, true, true, true, true, true, true, true, true] rfl rfl (one_of HT_.out (by kernel_rfl)) (by decide) (fun K hK => ?_)
    have hs53 : w52.cell? ⟨gb384, 0, none⟩ = some (.int .i64 0) := (blk_cell BK384.out 0).trans rfl
    have hfs53 := blk_frozen BK384.out 0
    have hs54 : w52.cell? ⟨gb384, 1, none⟩ = some (.int .i64 0) := (blk_cell BK384.out 1).trans rfl
    have hfs54 := blk_frozen BK384.out 1
    have hs55 : w52.cell? ⟨gb384, 2, none⟩ = some (.int .i64 0) := (blk_cell BK384.out 2).trans rfl
    have hfs55 := blk_frozen BK384.out 2
    refine skip_ (w1 := ?_) (by rfl) rfl ?_ ?_
    rotate_left
    ·go_simp
     rfl
    refine hK.out _ _ ⟨((cell_far (p := ⟨gb384, _, none⟩) (by first | exact Kd.own_blk (Kd.R_away HO376.out (fun _ hk => hk.2)) | (rw [add_block]; exact Kd.own_blk (Kd.R_away HO376.out (fun _ hk => hk.2))) | (show (Addr.add _ _).block ≠ _; rw [add_block]; exact Kd.own_blk (Kd.R_away HO376.out (fun _ hk => hk.2))) | (dsimp only; exact Kd.own_blk (Kd.R_away HO376.out (fun _ hk => hk.2)))) _).trans (((cell_far (p := ⟨gb384, _, none⟩) (by first | exact Kd.own_blk (Kd.R_away HO376.out (fun _ hk => hk.2)) | (rw [add_block]; exact Kd.own_blk (Kd.R_away HO376.out (fun _ hk => hk.2))) | (show (Addr.add _ _).block ≠ _; rw [add_block]; exact Kd.own_blk (Kd.R_away HO376.out (fun _ hk => hk.2))) | (dsimp only; exact Kd.own_blk (Kd.R_away HO376.out (fun _ hk => hk.2)))) _).trans (((cell_far (p := ⟨gb384, _, none⟩) (by first | exact Kd.own_blk (Kd.R_away HO376.out (fun _ hk => hk.2)) | (rw [add_block]; exact Kd.own_blk (Kd.R_away HO376.out (fun _ hk => hk.2))) | (show (Addr.add _ _).block ≠ _; rw [add_block]; exact Kd.own_blk (Kd.R_away HO376.out (fun _ hk => hk.2))) | (dsimp only; exact Kd.own_blk (Kd.R_away HO376.out (fun _ hk => hk.2)))) _).trans (hHeld.1)))))), ((cell_far (p := ⟨gb384, _, none⟩) (by first | exact Kd.own_blk (Kd.R_away HO376.out (fun _ hk => hk.2)) | (rw [add_block]; exact Kd.own_blk (Kd.R_away HO376.out (fun _ hk => hk.2))) | (show (Addr.add _ _).block ≠ _; rw [add_block]; exact Kd.own_blk (Kd.R_away HO376.out (fun _ hk => hk.2))) | (dsimp only; exact Kd.own_blk (Kd.R_away HO376.out (fun _ hk => hk.2)))) _).trans (((cell_far (p := ⟨gb384, _, none⟩) (by first | exact Kd.own_blk (Kd.R_away HO376.out (fun _ hk => hk.2)) | (rw [add_block]; exact Kd.own_blk (Kd.R_away HO376.out (fun _ hk => hk.2))) | (show (Addr.add _ _).block ≠ _; rw [add_block]; exact Kd.own_blk (Kd.R_away HO376.out (fun _ hk => hk.2))) | (dsimp only; exact Kd.own_blk (Kd.R_away HO376.out (fun _ hk => hk.2)))) _).trans (((cell_far (p := ⟨gb384, _, none⟩) (by first | exact Kd.own_blk (Kd.R_away HO376.out (fun _ hk => hk.2)) | (rw [add_block]; exact Kd.own_blk (Kd.R_away HO376.out (fun _ hk => hk.2))) | (show (Addr.add _ _).block ≠ _; rw [add_block]; exact Kd.own_blk (Kd.R_away HO376.out (fun _ hk => hk.2))) | (dsimp only; exact Kd.own_blk (Kd.R_away HO376.out (fun _ hk => hk.2)))) _).trans (hHeld.2.1)))))), ((cell_far (p := ⟨gb384, _, none⟩) (by first | exact Kd.own_blk (Kd.R_away HO376.out (fun _ hk => hk.2)) | (rw [add_block]; exact Kd.own_blk (Kd.R_away HO376.out (fun _ hk => hk.2))) | (show (Addr.add _ _).block ≠ _; rw [add_block]; exact Kd.own_blk (Kd.R_away HO376.out (fun _ hk => hk.2))) | (dsimp only; exact Kd.own_blk (Kd.R_away HO376.out (fun _ hk => hk.2)))) _).trans (((cell_far (p := ⟨gb384, _, none⟩) (by first | exact Kd.own_blk (Kd.R_away HO376.out (fun _ hk => hk.2)) | (rw [add_block]; exact Kd.own_blk (Kd.R_away HO376.out (fun _ hk => hk.2))) | (show (Addr.add _ _).block ≠ _; rw [add_block]; exact Kd.own_blk (Kd.R_away HO376.out (fun _ hk => hk.2))) | (dsimp only; exact Kd.own_blk (Kd.R_away HO376.out (fun _ hk => hk.2)))) _).trans (((cell_far (p := ⟨gb384, _, none⟩) (by first | exact Kd.own_blk (Kd.R_away HO376.out (fun _ hk => hk.2)) | (rw [add_block]; exact Kd.own_blk (Kd.R_away HO376.out (fun _ hk => hk.2))) | (show (Addr.add _ _).block ≠ _; rw [add_block]; exact Kd.own_blk (Kd.R_away HO376.out (fun _ hk => hk.2))) | (dsimp only; exact Kd.own_blk (Kd.R_away HO376.out (fun _ hk => hk.2)))) _).trans (hHeld.2.2.1)))))), ((cell_far (p := ⟨gb384, _, none⟩) (by first | exact Kd.own_blk (Kd.R_away HO_3.out (fun _ hk => hk.2)) | (rw [add_block]; exact Kd.own_blk (Kd.R_away HO_3.out (fun _ hk => hk.2))) | (show (Addr.add _ _).block ≠ _; rw [add_block]; exact Kd.own_blk (Kd.R_away HO_3.out (fun _ hk => hk.2))) | (dsimp only; exact Kd.own_blk (Kd.R_away HO_3.out (fun _ hk => hk.2)))) _).trans (((cell_far (p := ⟨gb384, _, none⟩) (by first | exact Kd.own_blk (Kd.R_away HO_3.out (fun _ hk => hk.2)) | (rw [add_block]; exact Kd.own_blk (Kd.R_away HO_3.out (fun _ hk => hk.2))) | (show (Addr.add _ _).block ≠ _; rw [add_block]; exact Kd.own_blk (Kd.R_away HO_3.out (fun _ hk => hk.2))) | (dsimp only; exact Kd.own_blk (Kd.R_away HO_3.out (fun _ hk => hk.2)))) _).trans (((cell_far (p := ⟨gb384, _, none⟩) (by first | exact Kd.own_blk (Kd.R_away HO_3.out (fun _ hk => hk.2)) | (rw [add_block]; exact Kd.own_blk (Kd.R_away HO_3.out (fun _ hk => hk.2))) | (show (Addr.add _ _).block ≠ _; rw [add_block]; exact Kd.own_blk (Kd.R_away HO_3.out (fun _ hk => hk.2))) | (dsimp only; exact Kd.own_blk (Kd.R_away HO_3.out (fun _ hk => hk.2)))) _).trans (hHeld.2.2.2.1)))))), ((cell_far (p := ⟨gb384, _, none⟩) (by first | exact Kd.own_blk (Kd.R_away HO_3.out (fun _ hk => hk.2)) | (rw [add_block]; exact Kd.own_blk (Kd.R_away HO_3.out (fun _ hk => hk.2))) | (show (Addr.add _ _).block ≠ _; rw [add_block]; exact Kd.own_blk (Kd.R_away HO_3.out (fun _ hk => hk.2))) | (dsimp only; exact Kd.own_blk (Kd.R_away HO_3.out (fun _ hk => hk.2)))) _).trans (((cell_far (p := ⟨gb384, _, none⟩) (by first | exact Kd.own_blk (Kd.R_away HO_3.out (fun _ hk => hk.2)) | (rw [add_block]; exact Kd.own_blk (Kd.R_away HO_3.out (fun _ hk => hk.2))) | (show (Addr.add _ _).block ≠ _; rw [add_block]; exact Kd.own_blk (Kd.R_away HO_3.out (fun _ hk => hk.2))) | (dsimp only; exact Kd.own_blk (Kd.R_away HO_3.out (fun _ hk => hk.2)))) _).trans (((cell_far (p := ⟨gb384, _, none⟩) (by first | exact Kd.own_blk (Kd.R_away HO_3.out (fun _ hk => hk.2)) | (rw [add_block]; exact Kd.own_blk (Kd.R_away HO_3.out (fun _ hk => hk.2))) | (show (Addr.add _ _).block ≠ _; rw [add_block]; exact Kd.own_blk (Kd.R_away HO_3.out (fun _ hk => hk.2))) | (dsimp only; exact Kd.own_blk (Kd.R_away HO_3.out (fun _ hk => hk.2)))) _).trans (hHeld.2.2.2.2.1)))))), ((cell_far (p := ⟨gb384, _, none⟩) (by first | exact Kd.own_blk (Kd.R_away HO_3.out (fun _ hk => hk.2)) | (rw [add_block]; exact Kd.own_blk (Kd.R_away HO_3.out (fun _ hk => hk.2))) | (show (Addr.add _ _).block ≠ _; rw [add_block]; exact Kd.own_blk (Kd.R_away HO_3.out (fun _ hk => hk.2))) | (dsimp only; exact Kd.own_blk (Kd.R_away HO_3.out (fun _ hk => hk.2)))) _).trans (((cell_far (p := ⟨gb384, _, none⟩) (by first | exact Kd.own_blk (Kd.R_away HO_3.out (fun _ hk => hk.2)) | (rw [add_block]; exact Kd.own_blk (Kd.R_away HO_3.out (fun _ hk => hk.2))) | (show (Addr.add _ _).block ≠ _; rw [add_block]; exact Kd.own_blk (Kd.R_away HO_3.out (fun _ hk => hk.2))) | (dsimp only; exact Kd.own_blk (Kd.R_away HO_3.out (fun _ hk => hk.2)))) _).trans (((cell_far (p := ⟨gb384, _, none⟩) (by first | exact Kd.own_blk (Kd.R_away HO_3.out (fun _ hk => hk.2)) | (rw [add_block]; exact Kd.own_blk (Kd.R_away HO_3.out (fun _ hk => hk.2))) | (show (Addr.add _ _).block ≠ _; rw [add_block]; exact Kd.own_blk (Kd.R_away HO_3.out (fun _ hk => hk.2))) | (dsimp only; exact Kd.own_blk (Kd.R_away HO_3.out (fun _ hk => hk.2)))) _).trans (hHeld.2.2.2.2.2))))))⟩ (fun hHeld => ?_)
    clear hK K
    refine done_ (done_of HT_.out (by kernel_rfl)) ?_
    have hnb56 := NB384_0.out
    have hnc56 := NB0_384.out
    have hcz57_0 : w52.cell? ⟨gb384, 0, none⟩ = some (.int .i64 0) := (blk_cell BK384.out 0).trans rfl
    have hcz57_1 : w52.cell? ⟨gb384, 1, none⟩ = some (.int .i64 0) := (blk_cell BK384.out 1).trans rfl
    have hcz57_2 : w52.cell? ⟨gb384, 2, none⟩ = some (.int .i64 0) := (blk_cell BK384.out 2).trans rfl
    have hfz57_0 := blk_frozen BK384.out 0
    have hfz57_1 := blk_frozen BK384.out 1
    have hfz57_2 := blk_frozen BK384.out 2
    try go_wp2_with (first | ((with_reducible refine gate_callee (f := 53) rfl ?_); refine goesL_ (some 41) rfl rfl Try.func53 (by kernel_rfl) rfl #[.slice (some ad373) x3_1.length co45, .agg #[.int .i64 t381, .int .i64 t382, .int .i64 t383]] rfl zm ?_; (with_reducible refine (spec_l09Index.calls k1 _ _ x3_1 t381 t382 t383 t385 _ ?side1 ?side2 A21.out).mono ?_); (case side1 => refine (Kd.R_reads' (e := 47) (base := w.heap.size) (ok := fun k_ => (some k_ ≠ ((.slice (some ad380) t374.length c9_) : Value).ownBlock ∧ k_ ≠ gb384)) (n := x3_1.length) (c := co45) ?_).2.2; exact (by (with_reducible repeat (first | apply Kd.R_alloc | apply Kd.R_drewN | apply Kd.R_drew)); exact (Kd.R_mono (Kd.R_far (p := ⟨gb384, 2, none⟩) (Kd.R_far (p := ⟨gb384, 1, none⟩) (Kd.R_far (p := ⟨gb384, 0, none⟩) (Kd.R_mono HO_3.out (fun k_ hk => (⟨hk, hk.2⟩ : _ ∧ k_ ≠ gb384))) (fun _ hk => hk.2) (.int .i64 t381)) (fun _ hk => hk.2) (.int .i64 t382)) (fun _ hk => hk.2) (.int .i64 t383)) (fun _ h_ => h_.1)))); (case side2 => exact (Kd.R_reads' HO_3.out).2.1); rintro e w58 ⟨rfl, hb⟩; refine ⟨_, rfl, ?_⟩; have n0_ := aM (Kd.R_below (by (with_reducible repeat (first | apply Kd.R_alloc | apply Kd.R_drewN | apply Kd.R_drew)); exact (Kd.R_mono (Kd.R_far (p := ⟨gb384, 2, none⟩) (Kd.R_far (p := ⟨gb384, 1, none⟩) (Kd.R_far (p := ⟨gb384, 0, none⟩) (Kd.R_mono HO_3.out (fun k_ hk => (⟨hk, hk.2⟩ : _ ∧ k_ ≠ gb384))) (fun _ hk => hk.2) (.int .i64 t381)) (fun _ hk => hk.2) (.int .i64 t382)) (fun _ hk => hk.2) (.int .i64 t383)) (fun _ h_ => h_.1))) hb); have n1_ := aM (Kd.R_below (by (with_reducible repeat (first | apply Kd.R_alloc | apply Kd.R_drewN | apply Kd.R_drew)); exact (Kd.R_mono (Kd.R_far (p := ⟨gb384, 2, none⟩) (Kd.R_far (p := ⟨gb384, 1, none⟩) (Kd.R_far (p := ⟨gb384, 0, none⟩) (Kd.R_mono HO376.out (fun k_ hk => (⟨hk, hk.2⟩ : _ ∧ k_ ≠ gb384))) (fun _ hk => hk.2) (.int .i64 t381)) (fun _ hk => hk.2) (.int .i64 t382)) (fun _ hk => hk.2) (.int .i64 t383)) (fun _ h_ => h_.1))) hb); have n2_ := aM (IsS92.below (show IsS92 w0 (((w52.setCell ⟨gb384, 0, none⟩ (.int .i64 t381)).setCell ⟨gb384, 1, none⟩ (.int .i64 t382)).setCell ⟨gb384, 2, none⟩ (.int .i64 t383)) g s0_0 t378 t379 from by repeat (first | (with_reducible first | exact HI0.out | apply IsS92.alloc | apply IsS92.drewN | apply IsS92.drew | apply IsS92.set_1 | apply IsS92.set_2 | refine IsS92.far ?_ NB0_384.out _) | exact HI0.out)) hb); have n3_ := aM (blk_below (g := gb384) (o := .cells #[.int .i64 t381, .int .i64 t382, .int .i64 t383] 47 (0, 0)) (by (with_reducible repeat (first | refine blk_drewN ?_ _ | refine blk_drew ?_ | refine blk_alloc ?_ _)); refine blk_put (cs := #[.int .i64 t381, .int .i64 t382, .int .i64 0]) ?_ 2 _ rfl; (with_reducible repeat (first | refine blk_drewN ?_ _ | refine blk_drew ?_ | refine blk_alloc ?_ _)); refine blk_put (cs := #[.int .i64 t381, .int .i64 0, .int .i64 0]) ?_ 1 _ rfl; (with_reducible repeat (first | refine blk_drewN ?_ _ | refine blk_drew ?_ | refine blk_alloc ?_ _)); refine blk_put (cs := #[.int .i64 0, .int .i64 0, .int .i64 0]) ?_ 0 _ rfl; (with_reducible repeat (first | refine blk_drewN ?_ _ | refine blk_drew ?_ | refine blk_alloc ?_ _)); exact BK384.out) hb); have n4_ := aM (KeepBut.trans (by repeat (first | (with_reducible first | exact HK.out | apply KeepBut.set_ | apply keep_drewN | apply keep_drew | apply keep_alloc | refine keep_far ?_ GW384.out _) | exact HK.out)) (KeepBut.of_below hb g none) (.inl rfl)); have n5_ := aM (below_step (by repeat (first | (with_reducible first | exact HB.out | apply below_alloc | apply pw_below_drewN | apply below_drew1 | refine below_set ?_ (IsS92.ge HI0.out) | refine below_set ?_ GE384.out) | exact HB.out)) hb); clear HO_3; clear HO376; clear HI0; clear BK384; clear HK; clear HB; have HO_3 := n0_; have HO376 := n1_; have HI0 := n2_; have BK384 := n3_; have HK := n4_; have HB := n5_; clear n0_ n1_ n2_ n3_ n4_ n5_; (try clear hb); (try clear hb2); (try clear hk); (try clear hi)))
    go_roundg k1
    case measure => have := HK1.out; omega
    case rel => exact ⟨(x3_1), (wrap64 (x4_1 - 1)), (t378), (t379), zr, H', ⟨by have := HK1.out; omega⟩, ⟨by (with_reducible repeat (first | apply Kd.R_alloc | apply Kd.R_drewN | apply Kd.R_drew)); exact Kd.R_mono HO_3.out (fun _ hk => trivial)⟩, ⟨by repeat (first | (with_reducible first | exact HI0.out | apply IsS92.alloc | apply IsS92.drewN | apply IsS92.drew | apply IsS92.set_1 | apply IsS92.set_2 | refine IsS92.far ?_ NB0_384.out _) | exact HI0.out)⟩, ⟨by repeat (first | (with_reducible first | exact HK.out | apply KeepBut.set_ | apply keep_drewN | apply keep_drew | apply keep_alloc | refine keep_far ?_ GW384.out _) | exact HK.out)⟩, ⟨by repeat (first | (with_reducible first | exact HB.out | apply below_alloc | apply pw_below_drewN | apply below_drew1 | refine below_set ?_ (IsS92.ge HI0.out) | refine below_set ?_ GE384.out) | exact HB.out)⟩⟩
   rw [if_pos c22] at H
   have c22b0 : decide (t385 < 0) = true := decide_eq_true c22
   clear c22
   by_cases c23 : x3_1.length < 5864062014805
   rotate_left
   ·rw [if_neg c23] at H
    exact absurd H (by simp)
   rw [if_pos c23] at H
   have LMc23 := aM c23
   clear c23
   obtain ⟨y386, hy386⟩ : ∃ y_ : List (S47), y_ = (x3_1 ++ [(⟨t381, t382, t383⟩ : S47)]) := ⟨_, rfl⟩
   replace H : ((spec_l09Sort.f k1 y386).bind fun t389 => (spec_l09Draw.l0 k1 t389 (wrap64 (x4_1 - 1)) s0_0 t378 t379)) = some (r1, r2, r3) := zy H hy386
   have Ny386 := aM hy386
   clear hy386
   replace H := Option.bind_eq_some_iff.mp H
   obtain ⟨t389, A240, H⟩ := H
   replace H : (spec_l09Draw.l0 k1 t389 (wrap64 (x4_1 - 1)) s0_0 t378 t379) = some (r1, r2, r3) := H
   have A24 := aM A240
   clear A240
   have H' := aM H
   clear H
   try go_wp2
   have n0_ := aM (Kd.R_drew HO_3.out)
   have n1_ := aM (IsS92.drew HI0.out)
   have n2_ := aM (keep_drew HK.out)
   have n3_ := aM (below_drew1 HB.out)
   clear HO_3
   clear HI0
   clear HK
   clear HB
   have HO_3 := n0_
   have HI0 := n1_
   have HK := n2_
   have HB := n3_
   clear n0_ n1_ n2_ n3_
   obtain ⟨Ao26, co26, eo26⟩ := Kd.R_slice HO_3.out
   (first | subst eo26 | (injection eo26 with f1_ f2_ f3_; have f4_ := f1_.symm; have f5_ := f3_.symm; clear f1_ f2_ f3_; subst f4_; subst f5_))
   have p373 : 0 ≤ (t370 : Int) := of_decide_eq_true za
   have q373 : t370 < (x3_1.length : Int) := of_decide_eq_true za
   obtain ⟨ad373, e373, hx373_0, hx373_1, hx373_2⟩ := at_T47 (Kd.R_reads' HO_3.out).2.2 t370 p373 q373
   cases e373
   replace p373 := eq_true p373
   replace q373 := eq_true q373
   refine start_ (n := 15) (S := fun w' => (spec_l09Draw.d3 w' ad373 t370 x3_1)) (ds := []) #[false, false, false, false, false, false, false, false, false, false, false, false, false, false, false] (by kernel_rfl) rfl rfl ⟨hx373_0, hx373_1, hx373_2⟩ (fun hHeld => ?_); refine with_tabW spec_l09Draw.tab5 spec_l09Draw.bits5 (fun HT_ HW_ => ?_)
   generalize wr.drew = w25 at HO_3 HI0 HK HB hx373_0 hx373_1 hx373_2 hHeld ⊢
   refine pure_ (i := 0) (N := some 26) (v := ?_) (a' := ?_) #[true, false, false, false, false, false, false, false, false, false, false, false, false, false, false] rfl rfl zz (fun _ _ _ h => h) (Or.inl ⟨by rfl, ?_⟩) ?_ ?_
   rotate_left
   ·intro w'
    go_simp
    with_reducible rfl
   rotate_left
   ·simp only [Act.put, xA, xB, xC, i64_w, i32_w]
    rfl
   refine pure_ (i := 1) (N := some 27) (v := ?_) (a' := ?_) #[true, true, false, false, false, false, false, false, false, false, false, false, false, false, false] rfl rfl zz (fun _ _ _ h => h) (Or.inl ⟨by rfl, ?_⟩) ?_ ?_
   rotate_left
   ·intro w'
    go_simp
    with_reducible rfl
   rotate_left
   ·simp only [Act.put, xA, xB, xC, i64_w, i32_w]
    rfl
   refine pure_ (i := 2) (N := some 28) (v := ?_) (a' := ?_) #[true, true, true, false, false, false, false, false, false, false, false, false, false, false, false] rfl rfl zz (fun _ _ _ h => h) (Or.inl ⟨by rfl, ?_⟩) ?_ ?_
   rotate_left
   ·intro w'
    go_simp
    with_reducible rfl
   rotate_left
   ·simp only [Act.put, xA, xB, xC, i64_w, i32_w]
    rfl
   refine pure_ (i := 3) (N := some 29) (v := ?_) (a' := ?_) #[true, true, true, true, false, false, false, false, false, false, false, false, false, false, false] rfl rfl zz (fun _ _ _ h => h) (Or.inl ⟨by rfl, ?_⟩) ?_ ?_
   rotate_left
   ·intro w'
    go_simp
    with_reducible rfl
   rotate_left
   ·simp only [Act.put, xA, xB, xC, i64_w, i32_w]
    rfl
   refine pure_ (i := 8) (N := some 34) (v := ?_) (a' := ?_) #[true, true, true, true, false, false, false, false, true, false, false, false, false, false, false] rfl rfl zz (fun _ _ _ h => h) (Or.inl ⟨by rfl, ?_⟩) ?_ ?_
   rotate_left
   ·intro w'
    go_simp
    with_reducible rfl
   rotate_left
   ·simp only [Act.put, xA, xB, xC, i64_w, i32_w]
    rfl
   refine join9_ (σ := (Value × Nat) × Addr) (fun s_ w' => (spec_l09Draw.c3 w' (s_.2) t377 t374 ((spec_l09Draw.d3 w' ad373 t370 x3_1)))) 1 #[true, true, true, true, true, true, true, true, true, true, true, true, true, true, false] (fun s_ => [(30, .int .i64 t370), (33, s_.1.1), (35, .int .i64 t377), (38, .agg #[.int .i64 t381, .int .i64 t382, .int .i64 t383]), (5, .pointer (some ⟨s_.1.2, 0, none⟩)), (31, .pointer (some (ad373.add ((t370).toNat * 3)))), (32, .agg #[.int .i64 ((rd_T47 x3_1 t370).f0), .int .i64 ((rd_T47 x3_1 t370).f1), .int .i64 ((rd_T47 x3_1 t370).f2)]), (36, .pointer (some (s_.2.add ((t377).toNat * 3)))), (37, .agg #[.int .i64 ((rd_T47 t374 t377).f0), .int .i64 ((rd_T47 t374 t377).f1), .int .i64 ((rd_T47 t374 t377).f2)])]) (fun s_ w' => ((spec_l09Draw.c3 w' (s_.2) t377 t374 ((spec_l09Draw.d3 w' ad373 t370 x3_1)))) ∧ (Kd.R k47 47 w' w.heap.size (fun k_ => some k_ ≠ (.slice (some ad373) x3_1.length co26 : Value).ownBlock ∧ k_ ≠ s_.1.2) s_.1.1 t374) ∧ (Kd.R k47 47 w' w.heap.size (fun k_ => some k_ ≠ (s_.1.1 : Value).ownBlock ∧ k_ ≠ s_.1.2) (.slice (some ad373) x3_1.length co26) x3_1) ∧ (w'.heap[s_.1.2]? = some (.cells #[.int .i64 0, .int .i64 0, .int .i64 0] 47 (0, 0))) ∧ (w.heap.size ≤ s_.1.2) ∧ (w0.heap.size ≤ s_.1.2) ∧ (g ≠ s_.1.2) ∧ (s_.1.2 ≠ g) ∧ (IsS92 w0 w' g s0_0 t378 t379) ∧ (KeepBut w w' g none) ∧ (Below w0.heap.size w0 w') ∧ (∃ c9_, s_.1.1 = Value.slice (some s_.2) t374.length c9_)) ?_ ?_
   rotate_left
   ·intro hJ4_7_9_12_13
    refine join9_ (σ := (Value) × Addr) (fun s_ w' => (spec_l09Draw.c3 w' (s_.2) t377 t374 ((spec_l09Draw.d3 w' ad373 t370 x3_1)))) 2 #[true, true, true, true, true, true, true, true, true, true, true, true, true, false, false] (fun s_ => [(30, .int .i64 t370), (33, s_.1), (35, .int .i64 t377), (38, .agg #[.int .i64 t381, .int .i64 t382, .int .i64 t383]), (31, .pointer (some (ad373.add ((t370).toNat * 3)))), (32, .agg #[.int .i64 ((rd_T47 x3_1 t370).f0), .int .i64 ((rd_T47 x3_1 t370).f1), .int .i64 ((rd_T47 x3_1 t370).f2)]), (36, .pointer (some (s_.2.add ((t377).toNat * 3)))), (37, .agg #[.int .i64 ((rd_T47 t374 t377).f0), .int .i64 ((rd_T47 t374 t377).f1), .int .i64 ((rd_T47 t374 t377).f2)])]) (fun s_ w' => ((spec_l09Draw.c3 w' (s_.2) t377 t374 ((spec_l09Draw.d3 w' ad373 t370 x3_1)))) ∧ (Kd.R k47 47 w' w.heap.size (fun k_ => some k_ ≠ (.slice (some ad373) x3_1.length co26 : Value).ownBlock) s_.1 t374) ∧ (Kd.R k47 47 w' w.heap.size (fun k_ => some k_ ≠ (s_.1 : Value).ownBlock) (.slice (some ad373) x3_1.length co26) x3_1) ∧ (IsS92 w0 w' g s0_0 t378 t379) ∧ (KeepBut w w' g none) ∧ (Below w0.heap.size w0 w') ∧ (∃ c9_, s_.1 = Value.slice (some s_.2) t374.length c9_)) ?_ ?_
    rotate_left
    ·intro hJ4_7_9_12
     refine join9_ (σ := (Value × Nat) × Addr) (fun s_ w' => (spec_l09Draw.c3 w' (s_.2) t377 t374 ((spec_l09Draw.d3 w' ad373 t370 x3_1)))) 2 #[true, true, true, true, true, true, true, true, true, true, true, true, false, true, false] (fun s_ => [(30, .int .i64 t370), (33, s_.1.1), (35, .int .i64 t377), (5, .pointer (some ⟨s_.1.2, 0, none⟩)), (31, .pointer (some (ad373.add ((t370).toNat * 3)))), (32, .agg #[.int .i64 ((rd_T47 x3_1 t370).f0), .int .i64 ((rd_T47 x3_1 t370).f1), .int .i64 ((rd_T47 x3_1 t370).f2)]), (36, .pointer (some (s_.2.add ((t377).toNat * 3)))), (37, .agg #[.int .i64 ((rd_T47 t374 t377).f0), .int .i64 ((rd_T47 t374 t377).f1), .int .i64 ((rd_T47 t374 t377).f2)])]) (fun s_ w' => ((spec_l09Draw.c3 w' (s_.2) t377 t374 ((spec_l09Draw.d3 w' ad373 t370 x3_1)))) ∧ (Kd.R k47 47 w' w.heap.size (fun k_ => some k_ ≠ (.slice (some ad373) x3_1.length co26 : Value).ownBlock ∧ k_ ≠ s_.1.2) s_.1.1 t374) ∧ (Kd.R k47 47 w' w.heap.size (fun k_ => some k_ ≠ (s_.1.1 : Value).ownBlock ∧ k_ ≠ s_.1.2) (.slice (some ad373) x3_1.length co26) x3_1) ∧ (w'.heap[s_.1.2]? = some (.cells #[.int .i64 0, .int .i64 0, .int .i64 0] 47 (0, 0))) ∧ (w.heap.size ≤ s_.1.2) ∧ (w0.heap.size ≤ s_.1.2) ∧ (g ≠ s_.1.2) ∧ (s_.1.2 ≠ g) ∧ (IsS92 w0 w' g s0_0 t378 t379) ∧ (KeepBut w w' g none) ∧ (Below w0.heap.size w0 w') ∧ (∃ c9_, s_.1.1 = Value.slice (some s_.2) t374.length c9_)) ?_ ?_
     rotate_left
     ·intro hJ4_7_9_13
      refine join9_ (σ := (Value) × Addr) (fun s_ w' => (spec_l09Draw.c3 w' (s_.2) t377 t374 ((spec_l09Draw.d3 w' ad373 t370 x3_1)))) 3 #[true, true, true, true, true, true, true, true, true, true, true, true, false, false, false] (fun s_ => [(30, .int .i64 t370), (33, s_.1), (35, .int .i64 t377), (31, .pointer (some (ad373.add ((t370).toNat * 3)))), (32, .agg #[.int .i64 ((rd_T47 x3_1 t370).f0), .int .i64 ((rd_T47 x3_1 t370).f1), .int .i64 ((rd_T47 x3_1 t370).f2)]), (36, .pointer (some (s_.2.add ((t377).toNat * 3)))), (37, .agg #[.int .i64 ((rd_T47 t374 t377).f0), .int .i64 ((rd_T47 t374 t377).f1), .int .i64 ((rd_T47 t374 t377).f2)])]) (fun s_ w' => ((spec_l09Draw.c3 w' (s_.2) t377 t374 ((spec_l09Draw.d3 w' ad373 t370 x3_1)))) ∧ (Kd.R k47 47 w' w.heap.size (fun k_ => some k_ ≠ (.slice (some ad373) x3_1.length co26 : Value).ownBlock) s_.1 t374) ∧ (Kd.R k47 47 w' w.heap.size (fun k_ => some k_ ≠ (s_.1 : Value).ownBlock) (.slice (some ad373) x3_1.length co26) x3_1) ∧ (IsS92 w0 w' g s0_0 t378 t379) ∧ (KeepBut w w' g none) ∧ (Below w0.heap.size w0 w') ∧ (∃ c9_, s_.1 = Value.slice (some s_.2) t374.length c9_)) ?_ ?_
      rotate_left
      ·intro hJ4_7_9
       refine join9_ (σ := (Value × Nat) × Addr) (fun s_ w' => (spec_l09Draw.c3 w' (s_.2) t377 t374 ((spec_l09Draw.d3 w' ad373 t370 x3_1)))) 5 #[true, true, true, true, true, true, true, true, true, false, false, false, false, true, false] (fun s_ => [(30, .int .i64 t370), (33, s_.1.1), (5, .pointer (some ⟨s_.1.2, 0, none⟩)), (31, .pointer (some (ad373.add ((t370).toNat * 3)))), (32, .agg #[.int .i64 ((rd_T47 x3_1 t370).f0), .int .i64 ((rd_T47 x3_1 t370).f1), .int .i64 ((rd_T47 x3_1 t370).f2)])]) (fun s_ w' => ((spec_l09Draw.c3 w' (s_.2) t377 t374 ((spec_l09Draw.d3 w' ad373 t370 x3_1)))) ∧ (Kd.R k47 47 w' w.heap.size (fun k_ => some k_ ≠ (.slice (some ad373) x3_1.length co26 : Value).ownBlock ∧ k_ ≠ s_.1.2) s_.1.1 t374) ∧ (Kd.R k47 47 w' w.heap.size (fun k_ => some k_ ≠ (s_.1.1 : Value).ownBlock ∧ k_ ≠ s_.1.2) (.slice (some ad373) x3_1.length co26) x3_1) ∧ (w'.heap[s_.1.2]? = some (.cells #[.int .i64 0, .int .i64 0, .int .i64 0] 47 (0, 0))) ∧ (w.heap.size ≤ s_.1.2) ∧ (w0.heap.size ≤ s_.1.2) ∧ (g ≠ s_.1.2) ∧ (s_.1.2 ≠ g) ∧ (IsS92 w0 w' g s0_0 t371 t372) ∧ (KeepBut w w' g none) ∧ (Below w0.heap.size w0 w') ∧ (∃ c9_, s_.1.1 = Value.slice (some s_.2) t374.length c9_)) ?_ ?_
       rotate_left
       ·intro hJ4_7_13
        refine join9_ (σ := (Value) × Addr) (fun s_ w' => (spec_l09Draw.c3 w' (s_.2) t377 t374 ((spec_l09Draw.d3 w' ad373 t370 x3_1)))) 6 #[true, true, true, true, true, true, true, true, true, false, false, false, false, false, false] (fun s_ => [(30, .int .i64 t370), (33, s_.1), (31, .pointer (some (ad373.add ((t370).toNat * 3)))), (32, .agg #[.int .i64 ((rd_T47 x3_1 t370).f0), .int .i64 ((rd_T47 x3_1 t370).f1), .int .i64 ((rd_T47 x3_1 t370).f2)])]) (fun s_ w' => ((spec_l09Draw.c3 w' (s_.2) t377 t374 ((spec_l09Draw.d3 w' ad373 t370 x3_1)))) ∧ (Kd.R k47 47 w' w.heap.size (fun k_ => some k_ ≠ (.slice (some ad373) x3_1.length co26 : Value).ownBlock) s_.1 t374) ∧ (Kd.R k47 47 w' w.heap.size (fun k_ => some k_ ≠ (s_.1 : Value).ownBlock) (.slice (some ad373) x3_1.length co26) x3_1) ∧ (IsS92 w0 w' g s0_0 t371 t372) ∧ (KeepBut w w' g none) ∧ (Below w0.heap.size w0 w') ∧ (∃ c9_, s_.1 = Value.slice (some s_.2) t374.length c9_)) ?_ ?_
        rotate_left
        ·intro hJ4_7
         refine join_ (σ := Nat) 6 #[true, true, true, true, true, true, true, false, true, false, false, false, false, true, false] (fun s_ => [(30, .int .i64 t370), (5, .pointer (some ⟨s_, 0, none⟩)), (31, .pointer (some (ad373.add ((t370).toNat * 3)))), (32, .agg #[.int .i64 ((rd_T47 x3_1 t370).f0), .int .i64 ((rd_T47 x3_1 t370).f1), .int .i64 ((rd_T47 x3_1 t370).f2)])]) (fun s_ w' => ((spec_l09Draw.d3 w' ad373 t370 x3_1)) ∧ (Kd.R k47 47 w' w.heap.size (fun k_ => k_ ≠ s_) (.slice (some ad373) x3_1.length co26) x3_1) ∧ (w'.heap[s_]? = some (.cells #[.int .i64 0, .int .i64 0, .int .i64 0] 47 (0, 0))) ∧ (w.heap.size ≤ s_) ∧ (w0.heap.size ≤ s_) ∧ (g ≠ s_) ∧ (s_ ≠ g) ∧ (IsS92 w0 w' g s0_0 t371 t372) ∧ (KeepBut w w' g none) ∧ (Below w0.heap.size w0 w')) ?_ ?_
         rotate_left
         ·intro hJ4_13
          refine join_ (σ := Unit) 7 #[true, true, true, true, true, true, true, false, true, false, false, false, false, false, false] (fun s_ => [(30, .int .i64 t370), (31, .pointer (some (ad373.add ((t370).toNat * 3)))), (32, .agg #[.int .i64 ((rd_T47 x3_1 t370).f0), .int .i64 ((rd_T47 x3_1 t370).f1), .int .i64 ((rd_T47 x3_1 t370).f2)])]) (fun s_ w' => ((spec_l09Draw.d3 w' ad373 t370 x3_1)) ∧ (Kd.R k47 47 w' w.heap.size (fun _ => True) (.slice (some ad373) x3_1.length co26) x3_1) ∧ (IsS92 w0 w' g s0_0 t371 t372) ∧ (KeepBut w w' g none) ∧ (Below w0.heap.size w0 w')) ?_ ?_
          rotate_left
          ·intro hJ4
           refine join_ (σ := Nat) 9 #[true, true, true, true, false, false, false, false, true, false, false, false, false, true, false] (fun s_ => [(5, .pointer (some ⟨s_, 0, none⟩))]) (fun s_ w' => ((spec_l09Draw.d3 w' ad373 t370 x3_1)) ∧ (Kd.R k47 47 w' w.heap.size (fun k_ => k_ ≠ s_) (.slice (some ad373) x3_1.length co26) x3_1) ∧ (w'.heap[s_]? = some (.cells #[.int .i64 0, .int .i64 0, .int .i64 0] 47 (0, 0))) ∧ (w.heap.size ≤ s_) ∧ (w0.heap.size ≤ s_) ∧ (g ≠ s_) ∧ (s_ ≠ g) ∧ (IsS92 w0 w' g s0_0 x1001_1 x1002_1) ∧ (KeepBut w w' g none) ∧ (Below w0.heap.size w0 w')) ?_ ?_
           rotate_left
           ·intro hJ13
            refine two_ (i := 4) (j := 13) (Ni := some 30) (Nj := some 5) #[true, true, true, true, true, false, false, false, true, false, false, false, false, false, false] #[true, true, true, true, false, false, false, false, true, false, false, false, false, true, false] rfl rfl rfl rfl (two_of HT_.out (by kernel_rfl)) (by decide) (by decide) (fun K hK => ?_) (fun K hK => ?_)
            ·skip
             refine goes_ Try.func74 (by kernel_rfl) rfl #[.pointer (some ⟨g, 0, none⟩), .int .i64 (x3_1.length : Int)] (by rfl) rfl rfl zm ?_
             with_reducible refine (spec_l01Next.calls g s0_0 x1001_1 x1002_1 (x3_1.length : Int) t370 t371 t372 w0 _ ?side1 ?side2 A13.out).mono ?_
             (case side1 => exact zI92 HI0.out)
             (case side2 => exact zs (IsS92.ge HI0.out))
             rintro e w27 ⟨rfl, hi, hb, hk⟩
             have HS3_ := keep_cell hk (hHeld.1) (by first | (rw [add_block]; exact Kd.own_blk (IsS92.own_ne HI0.out HO_3.out (by decide))) | (show (Addr.add _ _).block ≠ _; rw [add_block]; exact Kd.own_blk (IsS92.own_ne HI0.out HO_3.out (by decide))) | exact Kd.own_blk (IsS92.own_ne HI0.out HO_3.out (by decide)))
             have HS4_ := keep_cell hk (hHeld.2.1) (by first | (rw [add_block]; exact Kd.own_blk (IsS92.own_ne HI0.out HO_3.out (by decide))) | (show (Addr.add _ _).block ≠ _; rw [add_block]; exact Kd.own_blk (IsS92.own_ne HI0.out HO_3.out (by decide))) | exact Kd.own_blk (IsS92.own_ne HI0.out HO_3.out (by decide)))
             have HS5_ := keep_cell hk (hHeld.2.2) (by first | (rw [add_block]; exact Kd.own_blk (IsS92.own_ne HI0.out HO_3.out (by decide))) | (show (Addr.add _ _).block ≠ _; rw [add_block]; exact Kd.own_blk (IsS92.own_ne HI0.out HO_3.out (by decide))) | exact Kd.own_blk (IsS92.own_ne HI0.out HO_3.out (by decide)))
             refine ⟨_, rfl, ?_⟩
             have n0_ := aM (Kd.R_mono (Kd.R_keep (IsS92.apart (show IsS92 w0 _ g s0_0 x1001_1 x1002_1 from zI92 HI0.out) (mR_ HO_3.out) (by decide)) hk (fun _ h => h.2)) (fun _ h => h.1))
             have n1_ := aM (KeepBut.trans (zK HK.out) hk (.inl rfl))
             have n2_ := aM (hb)
             have n3_ := aM (hi)
             clear HO_3
             clear HK
             clear HB
             clear HI0
             have HO_3 := n0_
             have HK := n1_
             have HB := n2_
             have HI0 := n3_
             clear n0_ n1_ n2_ n3_
             (try clear hb)
             (try clear hb2)
             (try clear hk)
             (try clear hi)
             refine hK.out _ _ ⟨HS3_, HS4_, HS5_⟩ (fun hHeld => ?_)
             clear hK K
             refine norm_ (a' := ?_) ?_ ?_
             rotate_left
             ·show Act.put _ (some 30) _ = _
              simp only [Act.put, xA, xB, xC, i64_w, i32_w]
              rfl
             refine pure_ (i := 5) (N := some 31) (v := ?_) (a' := ?_) #[true, true, true, true, true, true, false, false, true, false, false, false, false, false, false] rfl rfl zz (fun _ _ _ h => h) (Or.inl ⟨by rfl, ?_⟩) ?_ ?_
             rotate_left
             ·intro w'
              go_simp
              with_reducible rfl
             rotate_left
             ·simp only [Act.put, xA, xB, xC, i64_w, i32_w]
              rfl
             refine take_ (i := 6) (N := some 32) (v := ?_) (a' := ?_) #[true, true, true, true, true, true, true, false, true, false, false, false, false, false, false] rfl rfl (take_ofW HT_.out HW_.out (by kernel_rfl)) (fun _ _ _ h => h) (Or.inl ⟨by rfl, ?_⟩) hHeld ?_ ?_
             rotate_left
             ·rintro w' ⟨s0, s1, s2⟩
              go_simp
              with_reducible rfl
             rotate_left
             ·simp only [Act.put, xA, xB, xC, i64_w, i32_w]
              rfl
             exact norm_ (by first | (simp only [putAll, Act.put, xA, xB, xC]; done) | (simp only [putAll, Act.put, xA, xB, xC]; rfl)) (hJ4 () _ ⟨hHeld, (mR_ HO_3.out), (zI92 HI0.out), (zK HK.out), (zs (IsS92.ge HI0.out))⟩)
            ·skip
             refine box_step ?hg (N := 5) ?hd (cs := #[.int .i64 0, .int .i64 0, .int .i64 0]) (t := 47) ?hr ?_; (case hd => rfl); (case hg => rfl); (case hr => first | (go_simp; done) | (go_simp; rfl))
             intro gb384 hg w27 hbox hb
             have HS3_ := (hb.cell (World.block_lt_of_cell? _ _ (hHeld.1))).trans (hHeld.1)
             have HS4_ := (hb.cell (World.block_lt_of_cell? _ _ (hHeld.2.1))).trans (hHeld.2.1)
             have HS5_ := (hb.cell (World.block_lt_of_cell? _ _ (hHeld.2.2))).trans (hHeld.2.2)
             have n0_ := aM (Kd.R_below (Kd.R_elderB (mR_ HO_3.out) gb384 (Nat.le_of_eq hg.symm)) hb)
             have n1_ := aM (IsS92.below (zI92 HI0.out) hb)
             have n2_ := aM (KeepBut.trans (zK HK.out) (KeepBut.of_below hb g none) (.inl rfl))
             have n3_ := aM (below_step (zs (IsS92.ge HI0.out)) hb)
             have n4_ := aM (hbox)
             have n5_ := aM ((by rw [hg]; exact (keep_size (w := w) (g := g) (row := none) (zK HK.out)) : w.heap.size ≤ gb384))
             have n6_ := aM ((Nat.le_trans HW0.out (by rw [hg]; exact (keep_size (w := w) (g := g) (row := none) (zK HK.out)) : w.heap.size ≤ gb384) : w0.heap.size ≤ gb384))
             have n7_ := aM ((by rw [hg]; exact Nat.ne_of_lt (IsS92.lt (show IsS92 w0 _ g s0_0 x1001_1 x1002_1 from zI92 HI0.out)) : g ≠ gb384))
             have n8_ := aM ((by rw [hg]; exact Nat.ne_of_gt (IsS92.lt (show IsS92 w0 _ g s0_0 x1001_1 x1002_1 from zI92 HI0.out)) : gb384 ≠ g))
             clear HO_3
             clear HI0
             clear HK
             clear HB
             have HO_3 := n0_
             have HI0 := n1_
             have HK := n2_
             have HB := n3_
             have BK384 := n4_
             have GW384 := n5_
             have GE384 := n6_
             have NB0_384 := n7_
             have NB384_0 := n8_
             clear n0_ n1_ n2_ n3_ n4_ n5_ n6_ n7_ n8_
             clear hb hbox hg
             refine hK.out _ _ ⟨HS3_, HS4_, HS5_⟩ (fun hHeld => ?_)
             clear hK K
             refine norm_ (a' := ?_) ?_ ?_
             rotate_left
             ·show Act.put _ (some 5) _ = _
              simp only [Act.put, xA, xB, xC, i64_w, i32_w]
              rfl
             exact norm_ (by first | (simp only [putAll, Act.put, xA, xB, xC]; done) | (simp only [putAll, Act.put, xA, xB, xC]; rfl)) (hJ13 (gb384) _ ⟨hHeld, (by (with_reducible repeat (first | apply Kd.R_alloc | apply Kd.R_drewN | apply Kd.R_drew)); exact Kd.R_mono HO_3.out (fun _ hk => hk.2)), (mB_ BK384.out), GW384.out, GE384.out, NB0_384.out, NB384_0.out, (by repeat (first | (with_reducible first | exact HI0.out | apply IsS92.alloc | apply IsS92.drewN | apply IsS92.drew | apply IsS92.set_1 | apply IsS92.set_2 | refine IsS92.far ?_ NB0_384.out _) | exact HI0.out)), (by repeat (first | (with_reducible first | exact HK.out | apply KeepBut.set_ | apply keep_drewN | apply keep_drew | apply keep_alloc | refine keep_far ?_ GW384.out _) | exact HK.out)), (by repeat (first | (with_reducible first | exact HB.out | apply below_alloc | apply pw_below_drewN | apply below_drew1 | refine below_set ?_ (IsS92.ge HI0.out) | refine below_set ?_ GE384.out) | exact HB.out))⟩)
           ·skip
            rintro gb384 w28 ⟨hS_, h0_, h1_, h2_, h3_, h4_, h5_, h6_, h7_, h8_⟩
            have n0_ : Aside0 (Kd.R k47 47 w28 w.heap.size (fun k_ => k_ ≠ gb384) (.slice (some ad373) x3_1.length co26) x3_1) := ⟨h0_⟩
            have n1_ : Aside0 (w28.heap[gb384]? = some (.cells #[.int .i64 0, .int .i64 0, .int .i64 0] 47 (0, 0))) := ⟨h1_⟩
            have n2_ : Aside0 (w.heap.size ≤ gb384) := ⟨h2_⟩
            have n3_ : Aside0 (w0.heap.size ≤ gb384) := ⟨h3_⟩
            have n4_ : Aside0 (g ≠ gb384) := ⟨h4_⟩
            have n5_ : Aside0 (gb384 ≠ g) := ⟨h5_⟩
            have n6_ : Aside0 (IsS92 w0 w28 g s0_0 x1001_1 x1002_1) := ⟨h6_⟩
            have n7_ : Aside0 (KeepBut w w28 g none) := ⟨h7_⟩
            have n8_ : Aside0 (Below w0.heap.size w0 w28) := ⟨h8_⟩
            clear HO_3
            clear HI0
            clear HK
            clear HB
            clear h0_ h1_ h2_ h3_ h4_ h5_ h6_ h7_ h8_
            have HO_3 := n0_
            have BK384 := n1_
            have GW384 := n2_
            have GE384 := n3_
            have NB0_384 := n4_
            have NB384_0 := n5_
            have HI0 := n6_
            have HK := n7_
            have HB := n8_
            clear n0_ n1_ n2_ n3_ n4_ n5_ n6_ n7_ n8_
            have hHeld : (spec_l09Draw.d3 w28 ad373 t370 x3_1) := hS_
            refine norm_ (a' := ?_) ?_ ?_
            rotate_left
            ·simp only [putAll, Act.put, xA, xB, xC]
             rfl
            refine one_ (i := 4) (N := some 30) #[true, true, true, true, true, false, false, false, true, false, false, false, false, true, false] rfl rfl (one_of HT_.out (by kernel_rfl)) (by decide) (fun K hK => ?_)
            refine goes_ Try.func74 (by kernel_rfl) rfl #[.pointer (some ⟨g, 0, none⟩), .int .i64 (x3_1.length : Int)] (by rfl) rfl rfl zm ?_
            with_reducible refine (spec_l01Next.calls g s0_0 x1001_1 x1002_1 (x3_1.length : Int) t370 t371 t372 w0 _ ?side1 ?side2 A13.out).mono ?_
            (case side1 => repeat (first | (with_reducible first | exact HI0.out | apply IsS92.alloc | apply IsS92.drewN | apply IsS92.drew | apply IsS92.set_1 | apply IsS92.set_2 | refine IsS92.far ?_ NB0_384.out _) | exact HI0.out))
            (case side2 => repeat (first | (with_reducible first | exact HB.out | apply below_alloc | apply pw_below_drewN | apply below_drew1 | refine below_set ?_ (IsS92.ge HI0.out) | refine below_set ?_ GE384.out) | exact HB.out))
            rintro e w29 ⟨rfl, hi, hb, hk⟩
            have HS3_ := keep_cell hk (hHeld.1) (by first | (rw [add_block]; exact Kd.own_blk (IsS92.own_ne HI0.out HO_3.out (by decide))) | (show (Addr.add _ _).block ≠ _; rw [add_block]; exact Kd.own_blk (IsS92.own_ne HI0.out HO_3.out (by decide))) | exact Kd.own_blk (IsS92.own_ne HI0.out HO_3.out (by decide)))
            have HS4_ := keep_cell hk (hHeld.2.1) (by first | (rw [add_block]; exact Kd.own_blk (IsS92.own_ne HI0.out HO_3.out (by decide))) | (show (Addr.add _ _).block ≠ _; rw [add_block]; exact Kd.own_blk (IsS92.own_ne HI0.out HO_3.out (by decide))) | exact Kd.own_blk (IsS92.own_ne HI0.out HO_3.out (by decide)))
            have HS5_ := keep_cell hk (hHeld.2.2) (by first | (rw [add_block]; exact Kd.own_blk (IsS92.own_ne HI0.out HO_3.out (by decide))) | (show (Addr.add _ _).block ≠ _; rw [add_block]; exact Kd.own_blk (IsS92.own_ne HI0.out HO_3.out (by decide))) | exact Kd.own_blk (IsS92.own_ne HI0.out HO_3.out (by decide)))
            refine ⟨_, rfl, ?_⟩
            have n0_ := aM (Kd.R_mono (Kd.R_keep (IsS92.apart (show IsS92 w0 _ g s0_0 x1001_1 x1002_1 from by repeat (first | (with_reducible first | exact HI0.out | apply IsS92.alloc | apply IsS92.drewN | apply IsS92.drew | apply IsS92.set_1 | apply IsS92.set_2 | refine IsS92.far ?_ NB0_384.out _) | exact HI0.out)) (mR_ HO_3.out) (by decide)) hk (fun _ h => h.2)) (fun _ h => h.1))
            have n1_ := aM (KeepBut.blk hk (g' := gb384) (o := .cells #[.int .i64 0, .int .i64 0, .int .i64 0] 47 (0, 0)) (mB_ BK384.out) NB384_0.out (by simp))
            have n2_ := aM (KeepBut.trans (by repeat (first | (with_reducible first | exact HK.out | apply KeepBut.set_ | apply keep_drewN | apply keep_drew | apply keep_alloc | refine keep_far ?_ GW384.out _) | exact HK.out)) hk (.inl rfl))
            have n3_ := aM (hb)
            have n4_ := aM (hi)
            clear HO_3
            clear BK384
            clear HK
            clear HB
            clear HI0
            have HO_3 := n0_
            have BK384 := n1_
            have HK := n2_
            have HB := n3_
            have HI0 := n4_
            clear n0_ n1_ n2_ n3_ n4_
            (try clear hb)
            (try clear hb2)
            (try clear hk)
            (try clear hi)
            refine hK.out _ _ ⟨HS3_, HS4_, HS5_⟩ (fun hHeld => ?_)
            clear hK K
            refine norm_ (a' := ?_) ?_ ?_
            rotate_left
            ·show Act.put _ (some 30) _ = _
             simp only [Act.put, xA, xB, xC, i64_w, i32_w]
             rfl
            refine pure_ (i := 5) (N := some 31) (v := ?_) (a' := ?_) #[true, true, true, true, true, true, false, false, true, false, false, false, false, true, false] rfl rfl zz (fun _ _ _ h => h) (Or.inl ⟨by rfl, ?_⟩) ?_ ?_
            rotate_left
            ·intro w'
             go_simp
             with_reducible rfl
            rotate_left
            ·simp only [Act.put, xA, xB, xC, i64_w, i32_w]
             rfl
            refine take_ (i := 6) (N := some 32) (v := ?_) (a' := ?_) #[true, true, true, true, true, true, true, false, true, false, false, false, false, true, false] rfl rfl (take_ofW HT_.out HW_.out (by kernel_rfl)) (fun _ _ _ h => h) (Or.inl ⟨by rfl, ?_⟩) hHeld ?_ ?_
            rotate_left
            ·rintro w' ⟨s0, s1, s2⟩
             go_simp
             with_reducible rfl
            rotate_left
            ·simp only [Act.put, xA, xB, xC, i64_w, i32_w]
             rfl
            exact norm_ (by first | (simp only [putAll, Act.put, xA, xB, xC]; done) | (simp only [putAll, Act.put, xA, xB, xC]; rfl)) (hJ4_13 (gb384) _ ⟨hHeld, (mR_ HO_3.out), (mB_ BK384.out), GW384.out, GE384.out, NB0_384.out, NB384_0.out, (by repeat (first | (with_reducible first | exact HI0.out | apply IsS92.alloc | apply IsS92.drewN | apply IsS92.drew | apply IsS92.set_1 | apply IsS92.set_2 | refine IsS92.far ?_ NB0_384.out _) | exact HI0.out)), (by repeat (first | (with_reducible first | exact HK.out | apply KeepBut.set_ | apply keep_drewN | apply keep_drew | apply keep_alloc | refine keep_far ?_ GW384.out _) | exact HK.out)), (by repeat (first | (with_reducible first | exact HB.out | apply below_alloc | apply pw_below_drewN | apply below_drew1 | refine below_set ?_ (IsS92.ge HI0.out) | refine below_set ?_ GE384.out) | exact HB.out))⟩)
          ·skip
           rintro _ w28 ⟨hS_, h0_, h1_, h2_, h3_⟩
           have n0_ : Aside0 (Kd.R k47 47 w28 w.heap.size (fun _ => True) (.slice (some ad373) x3_1.length co26) x3_1) := ⟨h0_⟩
           have n1_ : Aside0 (IsS92 w0 w28 g s0_0 t371 t372) := ⟨h1_⟩
           have n2_ : Aside0 (KeepBut w w28 g none) := ⟨h2_⟩
           have n3_ : Aside0 (Below w0.heap.size w0 w28) := ⟨h3_⟩
           clear HO_3
           clear HI0
           clear HK
           clear HB
           clear h0_ h1_ h2_ h3_
           have HO_3 := n0_
           have HI0 := n1_
           have HK := n2_
           have HB := n3_
           clear n0_ n1_ n2_ n3_
           have hHeld : (spec_l09Draw.d3 w28 ad373 t370 x3_1) := hS_
           refine norm_ (a' := ?_) ?_ ?_
           rotate_left
           ·simp only [putAll, Act.put, xA, xB, xC]
            rfl
           refine two_ (i := 7) (j := 13) (Ni := some 33) (Nj := some 5) #[true, true, true, true, true, true, true, true, true, false, false, false, false, false, false] #[true, true, true, true, true, true, true, false, true, false, false, false, false, true, false] rfl rfl rfl rfl (two_of HT_.out (by kernel_rfl)) (by decide) (by decide) (fun K hK => ?_) (fun K hK => ?_)
           ·skip
            refine goes_ Try.func55 (by kernel_rfl) rfl #[] (by rfl) rfl rfl zm ?_
            with_reducible refine (spec_l09Steps.calls  t374 _ A16.out).mono ?_
            rintro e w29 ⟨v375, rfl, ho0, hb⟩
            have HS3_ := (hb.cell (World.block_lt_of_cell? _ _ (hHeld.1))).trans (hHeld.1)
            have HS4_ := (hb.cell (World.block_lt_of_cell? _ _ (hHeld.2.1))).trans (hHeld.2.1)
            have HS5_ := (hb.cell (World.block_lt_of_cell? _ _ (hHeld.2.2))).trans (hHeld.2.2)
            refine ⟨_, rfl, ?_⟩
            have n0_ := aM (Kd.R_elder' (mR_ HO_3.out) (Kd.R_base ho0) hb)
            have n1_ := aM (Kd.R_lower (Kd.R_new' ho0 (Kd.R_lt (mR_ HO_3.out))) (keep_size (w := w) (g := g) (row := none) (zK HK.out)))
            have n2_ := aM (IsS92.below (zI92 HI0.out) hb)
            have n3_ := aM (KeepBut.trans (zK HK.out) (KeepBut.of_below hb g none) (.inl rfl))
            have n4_ := aM (below_step (zs (IsS92.ge HI0.out)) hb)
            clear HO_3
            clear HI0
            clear HK
            clear HB
            have HO_3 := n0_
            have HO376 := n1_
            have HI0 := n2_
            have HK := n3_
            have HB := n4_
            clear n0_ n1_ n2_ n3_ n4_
            (try clear hb)
            (try clear hb2)
            (try clear hk)
            (try clear hi)
            (try clear ho0)
            obtain ⟨Ao30, co30, eo30⟩ := Kd.R_slice HO376.out
            (first | subst eo30 | (injection eo30 with f1_ f2_ f3_; have f4_ := f1_.symm; have f5_ := f3_.symm; clear f1_ f2_ f3_; subst f4_; subst f5_))
            have p380 : 0 ≤ (t377 : Int) := of_decide_eq_true za
            have q380 : t377 < (t374.length : Int) := of_decide_eq_true za
            obtain ⟨ad380, e380, hx380_0, hx380_1, hx380_2⟩ := at_T47 (Kd.R_reads' HO376.out).2.2 t377 p380 q380
            cases e380
            replace p380 := eq_true p380
            replace q380 := eq_true q380
            refine hK.out _ _ ⟨HS3_, HS4_, HS5_⟩ (fun hHeld => ?_)
            clear hK K
            refine more_ (S' := fun w' => (spec_l09Draw.c3 w' ad380 t377 t374 ((spec_l09Draw.d3 w' ad373 t370 x3_1)))) (fun _ h_ => ⟨h_.2.2.2.1, h_.2.2.2.2.1, h_.2.2.2.2.2⟩) ⟨hx380_0, hx380_1, hx380_2, hHeld.1, hHeld.2.1, hHeld.2.2⟩ (fun hHeld => ?_)
            refine norm_ (a' := ?_) ?_ ?_
            rotate_left
            ·show Act.put _ (some 33) _ = _
             simp only [Act.put, xA, xB, xC, i64_w, i32_w]
             rfl
            exact norm_ (by first | (simp only [putAll, Act.put, xA, xB, xC]; done) | (simp only [putAll, Act.put, xA, xB, xC]; rfl)) (hJ4_7 ((.slice (some ad380) t374.length co30), ad380) _ ⟨hHeld, (by (with_reducible repeat (first | apply Kd.R_alloc | apply Kd.R_drewN | apply Kd.R_drew)); exact Kd.R_mono HO376.out (fun _ hk => hk.2)), (by (with_reducible repeat (first | apply Kd.R_alloc | apply Kd.R_drewN | apply Kd.R_drew)); exact Kd.R_mono HO_3.out (fun _ hk => hk.2)), (zI92 HI0.out), (zK HK.out), (zs (IsS92.ge HI0.out)), ⟨_, rfl⟩⟩)
           ·skip
            refine box_step ?hg (N := 5) ?hd (cs := #[.int .i64 0, .int .i64 0, .int .i64 0]) (t := 47) ?hr ?_; (case hd => rfl); (case hg => rfl); (case hr => first | (go_simp; done) | (go_simp; rfl))
            intro gb384 hg w29 hbox hb
            have HS3_ := (hb.cell (World.block_lt_of_cell? _ _ (hHeld.1))).trans (hHeld.1)
            have HS4_ := (hb.cell (World.block_lt_of_cell? _ _ (hHeld.2.1))).trans (hHeld.2.1)
            have HS5_ := (hb.cell (World.block_lt_of_cell? _ _ (hHeld.2.2))).trans (hHeld.2.2)
            have n0_ := aM (Kd.R_below (Kd.R_elderB (mR_ HO_3.out) gb384 (Nat.le_of_eq hg.symm)) hb)
            have n1_ := aM (IsS92.below (zI92 HI0.out) hb)
            have n2_ := aM (KeepBut.trans (zK HK.out) (KeepBut.of_below hb g none) (.inl rfl))
            have n3_ := aM (below_step (zs (IsS92.ge HI0.out)) hb)
            have n4_ := aM (hbox)
            have n5_ := aM ((by rw [hg]; exact (keep_size (w := w) (g := g) (row := none) (zK HK.out)) : w.heap.size ≤ gb384))
            have n6_ := aM ((Nat.le_trans HW0.out (by rw [hg]; exact (keep_size (w := w) (g := g) (row := none) (zK HK.out)) : w.heap.size ≤ gb384) : w0.heap.size ≤ gb384))
            have n7_ := aM ((by rw [hg]; exact Nat.ne_of_lt (IsS92.lt (show IsS92 w0 _ g s0_0 t371 t372 from zI92 HI0.out)) : g ≠ gb384))
            have n8_ := aM ((by rw [hg]; exact Nat.ne_of_gt (IsS92.lt (show IsS92 w0 _ g s0_0 t371 t372 from zI92 HI0.out)) : gb384 ≠ g))
            clear HO_3
            clear HI0
            clear HK
            clear HB
            have HO_3 := n0_
            have HI0 := n1_
            have HK := n2_
            have HB := n3_
            have BK384 := n4_
            have GW384 := n5_
            have GE384 := n6_
            have NB0_384 := n7_
            have NB384_0 := n8_
            clear n0_ n1_ n2_ n3_ n4_ n5_ n6_ n7_ n8_
            clear hb hbox hg
            refine hK.out _ _ ⟨HS3_, HS4_, HS5_⟩ (fun hHeld => ?_)
            clear hK K
            refine norm_ (a' := ?_) ?_ ?_
            rotate_left
            ·show Act.put _ (some 5) _ = _
             simp only [Act.put, xA, xB, xC, i64_w, i32_w]
             rfl
            exact norm_ (by first | (simp only [putAll, Act.put, xA, xB, xC]; done) | (simp only [putAll, Act.put, xA, xB, xC]; rfl)) (hJ4_13 (gb384) _ ⟨hHeld, (by (with_reducible repeat (first | apply Kd.R_alloc | apply Kd.R_drewN | apply Kd.R_drew)); exact Kd.R_mono HO_3.out (fun _ hk => hk.2)), (mB_ BK384.out), GW384.out, GE384.out, NB0_384.out, NB384_0.out, (by repeat (first | (with_reducible first | exact HI0.out | apply IsS92.alloc | apply IsS92.drewN | apply IsS92.drew | apply IsS92.set_1 | apply IsS92.set_2 | refine IsS92.far ?_ NB0_384.out _) | exact HI0.out)), (by repeat (first | (with_reducible first | exact HK.out | apply KeepBut.set_ | apply keep_drewN | apply keep_drew | apply keep_alloc | refine keep_far ?_ GW384.out _) | exact HK.out)), (by repeat (first | (with_reducible first | exact HB.out | apply below_alloc | apply pw_below_drewN | apply below_drew1 | refine below_set ?_ (IsS92.ge HI0.out) | refine below_set ?_ GE384.out) | exact HB.out))⟩)
         ·skip
          rintro gb384 w29 ⟨hS_, h0_, h1_, h2_, h3_, h4_, h5_, h6_, h7_, h8_⟩
          have n0_ : Aside0 (Kd.R k47 47 w29 w.heap.size (fun k_ => k_ ≠ gb384) (.slice (some ad373) x3_1.length co26) x3_1) := ⟨h0_⟩
          have n1_ : Aside0 (w29.heap[gb384]? = some (.cells #[.int .i64 0, .int .i64 0, .int .i64 0] 47 (0, 0))) := ⟨h1_⟩
          have n2_ : Aside0 (w.heap.size ≤ gb384) := ⟨h2_⟩
          have n3_ : Aside0 (w0.heap.size ≤ gb384) := ⟨h3_⟩
          have n4_ : Aside0 (g ≠ gb384) := ⟨h4_⟩
          have n5_ : Aside0 (gb384 ≠ g) := ⟨h5_⟩
          have n6_ : Aside0 (IsS92 w0 w29 g s0_0 t371 t372) := ⟨h6_⟩
          have n7_ : Aside0 (KeepBut w w29 g none) := ⟨h7_⟩
          have n8_ : Aside0 (Below w0.heap.size w0 w29) := ⟨h8_⟩
          clear HO_3
          clear HI0
          clear HK
          clear HB
          clear h0_ h1_ h2_ h3_ h4_ h5_ h6_ h7_ h8_
          have HO_3 := n0_
          have BK384 := n1_
          have GW384 := n2_
          have GE384 := n3_
          have NB0_384 := n4_
          have NB384_0 := n5_
          have HI0 := n6_
          have HK := n7_
          have HB := n8_
          clear n0_ n1_ n2_ n3_ n4_ n5_ n6_ n7_ n8_
          have hHeld : (spec_l09Draw.d3 w29 ad373 t370 x3_1) := hS_
          refine norm_ (a' := ?_) ?_ ?_
          rotate_left
          ·simp only [putAll, Act.put, xA, xB, xC]
           rfl
          refine one_ (i := 7) (N := some 33) #[true, true, true, true, true, true, true, true, true, false, false, false, false, true, false] rfl rfl (one_of HT_.out (by kernel_rfl)) (by decide) (fun K hK => ?_)
          refine goes_ Try.func55 (by kernel_rfl) rfl #[] (by rfl) rfl rfl zm ?_
          with_reducible refine (spec_l09Steps.calls  t374 _ A16.out).mono ?_
          rintro e w30 ⟨v375, rfl, ho0, hb⟩
          have HS3_ := (hb.cell (World.block_lt_of_cell? _ _ (hHeld.1))).trans (hHeld.1)
          have HS4_ := (hb.cell (World.block_lt_of_cell? _ _ (hHeld.2.1))).trans (hHeld.2.1)
          have HS5_ := (hb.cell (World.block_lt_of_cell? _ _ (hHeld.2.2))).trans (hHeld.2.2)
          refine ⟨_, rfl, ?_⟩
          have n0_ := aM (Kd.R_elder' (mR_ HO_3.out) (Kd.R_base ho0) hb)
          have n1_ := aM (Kd.R_lower (Kd.R_newB (Kd.R_new' ho0 (Kd.R_lt (mR_ HO_3.out))) (g := gb384) (o := .cells #[.int .i64 0, .int .i64 0, .int .i64 0] 47 (0, 0)) (mB_ BK384.out)) (keep_size (w := w) (g := g) (row := none) (by repeat (first | (with_reducible first | exact HK.out | apply KeepBut.set_ | apply keep_drewN | apply keep_drew | apply keep_alloc | refine keep_far ?_ GW384.out _) | exact HK.out))))
          have n2_ := aM (IsS92.below (by repeat (first | (with_reducible first | exact HI0.out | apply IsS92.alloc | apply IsS92.drewN | apply IsS92.drew | apply IsS92.set_1 | apply IsS92.set_2 | refine IsS92.far ?_ NB0_384.out _) | exact HI0.out)) hb)
          have n3_ := aM (blk_below (g := gb384) (o := .cells #[.int .i64 0, .int .i64 0, .int .i64 0] 47 (0, 0)) (mB_ BK384.out) hb)
          have n4_ := aM (KeepBut.trans (by repeat (first | (with_reducible first | exact HK.out | apply KeepBut.set_ | apply keep_drewN | apply keep_drew | apply keep_alloc | refine keep_far ?_ GW384.out _) | exact HK.out)) (KeepBut.of_below hb g none) (.inl rfl))
          have n5_ := aM (below_step (by repeat (first | (with_reducible first | exact HB.out | apply below_alloc | apply pw_below_drewN | apply below_drew1 | refine below_set ?_ (IsS92.ge HI0.out) | refine below_set ?_ GE384.out) | exact HB.out)) hb)
          clear HO_3
          clear HI0
          clear BK384
          clear HK
          clear HB
          have HO_3 := n0_
          have HO376 := n1_
          have HI0 := n2_
          have BK384 := n3_
          have HK := n4_
          have HB := n5_
          clear n0_ n1_ n2_ n3_ n4_ n5_
          (try clear hb)
          (try clear hb2)
          (try clear hk)
          (try clear hi)
          (try clear ho0)
          obtain ⟨Ao31, co31, eo31⟩ := Kd.R_slice HO376.out
          (first | subst eo31 | (injection eo31 with f1_ f2_ f3_; have f4_ := f1_.symm; have f5_ := f3_.symm; clear f1_ f2_ f3_; subst f4_; subst f5_))
          have p380 : 0 ≤ (t377 : Int) := of_decide_eq_true za
          have q380 : t377 < (t374.length : Int) := of_decide_eq_true za
          obtain ⟨ad380, e380, hx380_0, hx380_1, hx380_2⟩ := at_T47 (Kd.R_reads' HO376.out).2.2 t377 p380 q380
          cases e380
          replace p380 := eq_true p380
          replace q380 := eq_true q380
          refine hK.out _ _ ⟨HS3_, HS4_, HS5_⟩ (fun hHeld => ?_)
          clear hK K
          refine more_ (S' := fun w' => (spec_l09Draw.c3 w' ad380 t377 t374 ((spec_l09Draw.d3 w' ad373 t370 x3_1)))) (fun _ h_ => ⟨h_.2.2.2.1, h_.2.2.2.2.1, h_.2.2.2.2.2⟩) ⟨hx380_0, hx380_1, hx380_2, hHeld.1, hHeld.2.1, hHeld.2.2⟩ (fun hHeld => ?_)
          refine norm_ (a' := ?_) ?_ ?_
          rotate_left
          ·show Act.put _ (some 33) _ = _
           simp only [Act.put, xA, xB, xC, i64_w, i32_w]
           rfl
          exact norm_ (by first | (simp only [putAll, Act.put, xA, xB, xC]; done) | (simp only [putAll, Act.put, xA, xB, xC]; rfl)) (hJ4_7_13 ((.slice (some ad380) t374.length co31, gb384), ad380) _ ⟨hHeld, (by (with_reducible repeat (first | apply Kd.R_alloc | apply Kd.R_drewN | apply Kd.R_drew)); exact Kd.R_mono HO376.out (fun _ hk => ⟨hk.1.2, hk.2⟩)), (by (with_reducible repeat (first | apply Kd.R_alloc | apply Kd.R_drewN | apply Kd.R_drew)); exact Kd.R_mono HO_3.out (fun _ hk => ⟨hk.2, hk.1⟩)), (mB_ BK384.out), GW384.out, GE384.out, NB0_384.out, NB384_0.out, (by repeat (first | (with_reducible first | exact HI0.out | apply IsS92.alloc | apply IsS92.drewN | apply IsS92.drew | apply IsS92.set_1 | apply IsS92.set_2 | refine IsS92.far ?_ NB0_384.out _) | exact HI0.out)), (by repeat (first | (with_reducible first | exact HK.out | apply KeepBut.set_ | apply keep_drewN | apply keep_drew | apply keep_alloc | refine keep_far ?_ GW384.out _) | exact HK.out)), (by repeat (first | (with_reducible first | exact HB.out | apply below_alloc | apply pw_below_drewN | apply below_drew1 | refine below_set ?_ (IsS92.ge HI0.out) | refine below_set ?_ GE384.out) | exact HB.out)), ⟨_, rfl⟩⟩)
        ·skip
         rintro ⟨v375, ad380⟩ w30 ⟨hS_, h0_, h1_, h2_, h3_, h4_, ⟨c9_, hE9_⟩⟩
         replace hE9_ : v375 = Value.slice (some ad380) t374.length c9_ := hE9_
         subst hE9_
         have p380 : 0 ≤ (t377 : Int) := of_decide_eq_true za
         replace p380 := eq_true p380
         have q380 : t377 < (t374.length : Int) := of_decide_eq_true za
         replace q380 := eq_true q380
         refine more_ (S' := fun w' => (spec_l09Draw.c3 w' ad380 t377 t374 ((spec_l09Draw.d3 w' ad373 t370 x3_1)))) (fun _ h_ => h_) hS_ (fun hS_ => ?_)
         have n0_ : Aside0 (Kd.R k47 47 w30 w.heap.size (fun k_ => some k_ ≠ (.slice (some ad373) x3_1.length co26 : Value).ownBlock) (.slice (some ad380) t374.length c9_) t374) := ⟨h0_⟩
         have n1_ : Aside0 (Kd.R k47 47 w30 w.heap.size (fun k_ => some k_ ≠ ((.slice (some ad380) t374.length c9_) : Value).ownBlock) (.slice (some ad373) x3_1.length co26) x3_1) := ⟨h1_⟩
         have n2_ : Aside0 (IsS92 w0 w30 g s0_0 t371 t372) := ⟨h2_⟩
         have n3_ : Aside0 (KeepBut w w30 g none) := ⟨h3_⟩
         have n4_ : Aside0 (Below w0.heap.size w0 w30) := ⟨h4_⟩
         clear HO_3
         clear HI0
         clear HK
         clear HB
         clear h0_ h1_ h2_ h3_ h4_
         have HO376 := n0_
         have HO_3 := n1_
         have HI0 := n2_
         have HK := n3_
         have HB := n4_
         clear n0_ n1_ n2_ n3_ n4_
         have hHeld : (spec_l09Draw.c3 w30 ad380 t377 t374 ((spec_l09Draw.d3 w30 ad373 t370 x3_1))) := hS_
         refine norm_ (a' := ?_) ?_ ?_
         rotate_left
         ·simp only [putAll, Act.put, xA, xB, xC]
          rfl
         refine two_ (i := 9) (j := 13) (Ni := some 35) (Nj := some 5) #[true, true, true, true, true, true, true, true, true, true, false, false, false, false, false] #[true, true, true, true, true, true, true, true, true, false, false, false, false, true, false] rfl rfl rfl rfl (two_of HT_.out (by kernel_rfl)) (by decide) (by decide) (fun K hK => ?_) (fun K hK => ?_)
         ·skip
          refine goes_ Try.func74 (by kernel_rfl) rfl #[.pointer (some ⟨g, 0, none⟩), .int .i64 6] (by rfl) rfl rfl zm ?_
          with_reducible refine (spec_l01Next.calls g s0_0 t371 t372 6 t377 t378 t379 w0 _ ?side1 ?side2 A17.out).mono ?_
          (case side1 => exact zI92 HI0.out)
          (case side2 => exact zs (IsS92.ge HI0.out))
          rintro e w31 ⟨rfl, hi, hb, hk⟩
          have HS0_ := keep_cell hk (hHeld.1) (by first | (rw [add_block]; exact Kd.own_blk (IsS92.own_ne HI0.out HO376.out (by decide))) | (show (Addr.add _ _).block ≠ _; rw [add_block]; exact Kd.own_blk (IsS92.own_ne HI0.out HO376.out (by decide))) | exact Kd.own_blk (IsS92.own_ne HI0.out HO376.out (by decide)))
          have HS1_ := keep_cell hk (hHeld.2.1) (by first | (rw [add_block]; exact Kd.own_blk (IsS92.own_ne HI0.out HO376.out (by decide))) | (show (Addr.add _ _).block ≠ _; rw [add_block]; exact Kd.own_blk (IsS92.own_ne HI0.out HO376.out (by decide))) | exact Kd.own_blk (IsS92.own_ne HI0.out HO376.out (by decide)))
          have HS2_ := keep_cell hk (hHeld.2.2.1) (by first | (rw [add_block]; exact Kd.own_blk (IsS92.own_ne HI0.out HO376.out (by decide))) | (show (Addr.add _ _).block ≠ _; rw [add_block]; exact Kd.own_blk (IsS92.own_ne HI0.out HO376.out (by decide))) | exact Kd.own_blk (IsS92.own_ne HI0.out HO376.out (by decide)))
          have HS3_ := keep_cell hk (hHeld.2.2.2.1) (by first | (rw [add_block]; exact Kd.own_blk (IsS92.own_ne HI0.out HO_3.out (by decide))) | (show (Addr.add _ _).block ≠ _; rw [add_block]; exact Kd.own_blk (IsS92.own_ne HI0.out HO_3.out (by decide))) | exact Kd.own_blk (IsS92.own_ne HI0.out HO_3.out (by decide)))
          have HS4_ := keep_cell hk (hHeld.2.2.2.2.1) (by first | (rw [add_block]; exact Kd.own_blk (IsS92.own_ne HI0.out HO_3.out (by decide))) | (show (Addr.add _ _).block ≠ _; rw [add_block]; exact Kd.own_blk (IsS92.own_ne HI0.out HO_3.out (by decide))) | exact Kd.own_blk (IsS92.own_ne HI0.out HO_3.out (by decide)))
          have HS5_ := keep_cell hk (hHeld.2.2.2.2.2) (by first | (rw [add_block]; exact Kd.own_blk (IsS92.own_ne HI0.out HO_3.out (by decide))) | (show (Addr.add _ _).block ≠ _; rw [add_block]; exact Kd.own_blk (IsS92.own_ne HI0.out HO_3.out (by decide))) | exact Kd.own_blk (IsS92.own_ne HI0.out HO_3.out (by decide)))
          refine ⟨_, rfl, ?_⟩
          have n0_ := aM (Kd.R_mono (Kd.R_keep (IsS92.apart (show IsS92 w0 _ g s0_0 t371 t372 from zI92 HI0.out) (mR_ HO_3.out) (by decide)) hk (fun _ h => h.2)) (fun _ h => h.1))
          have n1_ := aM (Kd.R_mono (Kd.R_keep (IsS92.apart (show IsS92 w0 _ g s0_0 t371 t372 from zI92 HI0.out) (mR_ HO376.out) (by decide)) hk (fun _ h => h.2)) (fun _ h => h.1))
          have n2_ := aM (KeepBut.trans (zK HK.out) hk (.inl rfl))
          have n3_ := aM (hb)
          have n4_ := aM (hi)
          clear HO_3
          clear HO376
          clear HK
          clear HB
          clear HI0
          have HO_3 := n0_
          have HO376 := n1_
          have HK := n2_
          have HB := n3_
          have HI0 := n4_
          clear n0_ n1_ n2_ n3_ n4_
          (try clear hb)
          (try clear hb2)
          (try clear hk)
          (try clear hi)
          refine hK.out _ _ ⟨HS0_, HS1_, HS2_, HS3_, HS4_, HS5_⟩ (fun hHeld => ?_)
          clear hK K
          refine norm_ (a' := ?_) ?_ ?_
          rotate_left
          ·show Act.put _ (some 35) _ = _
           simp only [Act.put, xA, xB, xC, i64_w, i32_w]
           rfl
          refine pure_ (i := 10) (N := some 36) (v := ?_) (a' := ?_) #[true, true, true, true, true, true, true, true, true, true, true, false, false, false, false] rfl rfl zz (fun _ _ _ h => h) (Or.inl ⟨by rfl, ?_⟩) ?_ ?_
          rotate_left
          ·intro w'
           go_simp
           with_reducible rfl
          rotate_left
          ·simp only [Act.put, xA, xB, xC, i64_w, i32_w]
           rfl
          refine take_ (i := 11) (N := some 37) (v := ?_) (a' := ?_) #[true, true, true, true, true, true, true, true, true, true, true, true, false, false, false] rfl rfl (take_ofW HT_.out HW_.out (by kernel_rfl)) (fun _ _ _ h => h) (Or.inl ⟨by rfl, ?_⟩) hHeld ?_ ?_
          rotate_left
          ·rintro w' ⟨s0, s1, s2, s3, s4, s5⟩
           go_simp
           with_reducible rfl
          rotate_left
          ·simp only [Act.put, xA, xB, xC, i64_w, i32_w]
           rfl
          exact norm_ (by first | (simp only [putAll, Act.put, xA, xB, xC]; done) | (simp only [putAll, Act.put, xA, xB, xC]; rfl)) (hJ4_7_9 (((.slice (some ad380) t374.length c9_)), ad380) _ ⟨hHeld, (mR_ HO376.out), (mR_ HO_3.out), (zI92 HI0.out), (zK HK.out), (zs (IsS92.ge HI0.out)), ⟨_, rfl⟩⟩)
         ·skip
          refine box_step ?hg (N := 5) ?hd (cs := #[.int .i64 0, .int .i64 0, .int .i64 0]) (t := 47) ?hr ?_; (case hd => rfl); (case hg => rfl); (case hr => first | (go_simp; done) | (go_simp; rfl))
          intro gb384 hg w31 hbox hb
          have HS0_ := (hb.cell (World.block_lt_of_cell? _ _ (hHeld.1))).trans (hHeld.1)
          have HS1_ := (hb.cell (World.block_lt_of_cell? _ _ (hHeld.2.1))).trans (hHeld.2.1)
          have HS2_ := (hb.cell (World.block_lt_of_cell? _ _ (hHeld.2.2.1))).trans (hHeld.2.2.1)
          have HS3_ := (hb.cell (World.block_lt_of_cell? _ _ (hHeld.2.2.2.1))).trans (hHeld.2.2.2.1)
          have HS4_ := (hb.cell (World.block_lt_of_cell? _ _ (hHeld.2.2.2.2.1))).trans (hHeld.2.2.2.2.1)
          have HS5_ := (hb.cell (World.block_lt_of_cell? _ _ (hHeld.2.2.2.2.2))).trans (hHeld.2.2.2.2.2)
          have n0_ := aM (Kd.R_below (Kd.R_elderB (mR_ HO_3.out) gb384 (Nat.le_of_eq hg.symm)) hb)
          have n1_ := aM (Kd.R_below (Kd.R_elderB (mR_ HO376.out) gb384 (Nat.le_of_eq hg.symm)) hb)
          have n2_ := aM (IsS92.below (zI92 HI0.out) hb)
          have n3_ := aM (KeepBut.trans (zK HK.out) (KeepBut.of_below hb g none) (.inl rfl))
          have n4_ := aM (below_step (zs (IsS92.ge HI0.out)) hb)
          have n5_ := aM (hbox)
          have n6_ := aM ((by rw [hg]; exact (keep_size (w := w) (g := g) (row := none) (zK HK.out)) : w.heap.size ≤ gb384))
          have n7_ := aM ((Nat.le_trans HW0.out (by rw [hg]; exact (keep_size (w := w) (g := g) (row := none) (zK HK.out)) : w.heap.size ≤ gb384) : w0.heap.size ≤ gb384))
          have n8_ := aM ((by rw [hg]; exact Nat.ne_of_lt (IsS92.lt (show IsS92 w0 _ g s0_0 t371 t372 from zI92 HI0.out)) : g ≠ gb384))
          have n9_ := aM ((by rw [hg]; exact Nat.ne_of_gt (IsS92.lt (show IsS92 w0 _ g s0_0 t371 t372 from zI92 HI0.out)) : gb384 ≠ g))
          clear HO_3
          clear HO376
          clear HI0
          clear HK
          clear HB
          have HO_3 := n0_
          have HO376 := n1_
          have HI0 := n2_
          have HK := n3_
          have HB := n4_
          have BK384 := n5_
          have GW384 := n6_
          have GE384 := n7_
          have NB0_384 := n8_
          have NB384_0 := n9_
          clear n0_ n1_ n2_ n3_ n4_ n5_ n6_ n7_ n8_ n9_
          clear hb hbox hg
          refine hK.out _ _ ⟨HS0_, HS1_, HS2_, HS3_, HS4_, HS5_⟩ (fun hHeld => ?_)
          clear hK K
          refine norm_ (a' := ?_) ?_ ?_
          rotate_left
          ·show Act.put _ (some 5) _ = _
           simp only [Act.put, xA, xB, xC, i64_w, i32_w]
           rfl
          exact norm_ (by first | (simp only [putAll, Act.put, xA, xB, xC]; done) | (simp only [putAll, Act.put, xA, xB, xC]; rfl)) (hJ4_7_13 (((.slice (some ad380) t374.length c9_), gb384), ad380) _ ⟨hHeld, (mR_ HO376.out), (mR_ HO_3.out), (mB_ BK384.out), GW384.out, GE384.out, NB0_384.out, NB384_0.out, (by repeat (first | (with_reducible first | exact HI0.out | apply IsS92.alloc | apply IsS92.drewN | apply IsS92.drew | apply IsS92.set_1 | apply IsS92.set_2 | refine IsS92.far ?_ NB0_384.out _) | exact HI0.out)), (by repeat (first | (with_reducible first | exact HK.out | apply KeepBut.set_ | apply keep_drewN | apply keep_drew | apply keep_alloc | refine keep_far ?_ GW384.out _) | exact HK.out)), (by repeat (first | (with_reducible first | exact HB.out | apply below_alloc | apply pw_below_drewN | apply below_drew1 | refine below_set ?_ (IsS92.ge HI0.out) | refine below_set ?_ GE384.out) | exact HB.out)), ⟨_, rfl⟩⟩)
       ·skip
        rintro ⟨⟨v375, gb384⟩, ad380⟩ w31 ⟨hS_, h0_, h1_, h2_, h3_, h4_, h5_, h6_, h7_, h8_, h9_, ⟨c9_, hE9_⟩⟩
        replace hE9_ : v375 = Value.slice (some ad380) t374.length c9_ := hE9_
        subst hE9_
        have p380 : 0 ≤ (t377 : Int) := of_decide_eq_true za
        replace p380 := eq_true p380
        have q380 : t377 < (t374.length : Int) := of_decide_eq_true za
        replace q380 := eq_true q380
        refine more_ (S' := fun w' => (spec_l09Draw.c3 w' ad380 t377 t374 ((spec_l09Draw.d3 w' ad373 t370 x3_1)))) (fun _ h_ => h_) hS_ (fun hS_ => ?_)
        have n0_ : Aside0 (Kd.R k47 47 w31 w.heap.size (fun k_ => some k_ ≠ (.slice (some ad373) x3_1.length co26 : Value).ownBlock ∧ k_ ≠ gb384) (.slice (some ad380) t374.length c9_) t374) := ⟨h0_⟩
        have n1_ : Aside0 (Kd.R k47 47 w31 w.heap.size (fun k_ => some k_ ≠ ((.slice (some ad380) t374.length c9_) : Value).ownBlock ∧ k_ ≠ gb384) (.slice (some ad373) x3_1.length co26) x3_1) := ⟨h1_⟩
        have n2_ : Aside0 (w31.heap[gb384]? = some (.cells #[.int .i64 0, .int .i64 0, .int .i64 0] 47 (0, 0))) := ⟨h2_⟩
        have n3_ : Aside0 (w.heap.size ≤ gb384) := ⟨h3_⟩
        have n4_ : Aside0 (w0.heap.size ≤ gb384) := ⟨h4_⟩
        have n5_ : Aside0 (g ≠ gb384) := ⟨h5_⟩
        have n6_ : Aside0 (gb384 ≠ g) := ⟨h6_⟩
        have n7_ : Aside0 (IsS92 w0 w31 g s0_0 t371 t372) := ⟨h7_⟩
        have n8_ : Aside0 (KeepBut w w31 g none) := ⟨h8_⟩
        have n9_ : Aside0 (Below w0.heap.size w0 w31) := ⟨h9_⟩
        clear HO_3
        clear HI0
        clear HK
        clear HB
        clear h0_ h1_ h2_ h3_ h4_ h5_ h6_ h7_ h8_ h9_
        have HO376 := n0_
        have HO_3 := n1_
        have BK384 := n2_
        have GW384 := n3_
        have GE384 := n4_
        have NB0_384 := n5_
        have NB384_0 := n6_
        have HI0 := n7_
        have HK := n8_
        have HB := n9_
        clear n0_ n1_ n2_ n3_ n4_ n5_ n6_ n7_ n8_ n9_
        have hHeld : (spec_l09Draw.c3 w31 ad380 t377 t374 ((spec_l09Draw.d3 w31 ad373 t370 x3_1))) := hS_
        refine norm_ (a' := ?_) ?_ ?_
        rotate_left
        ·simp only [putAll, Act.put, xA, xB, xC]
         rfl
        refine one_ (i := 9) (N := some 35) #[true, true, true, true, true, true, true, true, true, true, false, false, false, true, false] rfl rfl (one_of HT_.out (by kernel_rfl)) (by decide) (fun K hK => ?_)
        refine goes_ Try.func74 (by kernel_rfl) rfl #[.pointer (some ⟨g, 0, none⟩), .int .i64 6] (by rfl) rfl rfl zm ?_
        with_reducible refine (spec_l01Next.calls g s0_0 t371 t372 6 t377 t378 t379 w0 _ ?side1 ?side2 A17.out).mono ?_
        (case side1 => repeat (first | (with_reducible first | exact HI0.out | apply IsS92.alloc | apply IsS92.drewN | apply IsS92.drew | apply IsS92.set_1 | apply IsS92.set_2 | refine IsS92.far ?_ NB0_384.out _) | exact HI0.out))
        (case side2 => repeat (first | (with_reducible first | exact HB.out | apply below_alloc | apply pw_below_drewN | apply below_drew1 | refine below_set ?_ (IsS92.ge HI0.out) | refine below_set ?_ GE384.out) | exact HB.out))
        rintro e w32 ⟨rfl, hi, hb, hk⟩
        have HS0_ := keep_cell hk (hHeld.1) (by first | (rw [add_block]; exact Kd.own_blk (IsS92.own_ne HI0.out HO376.out (by decide))) | (show (Addr.add _ _).block ≠ _; rw [add_block]; exact Kd.own_blk (IsS92.own_ne HI0.out HO376.out (by decide))) | exact Kd.own_blk (IsS92.own_ne HI0.out HO376.out (by decide)))
        have HS1_ := keep_cell hk (hHeld.2.1) (by first | (rw [add_block]; exact Kd.own_blk (IsS92.own_ne HI0.out HO376.out (by decide))) | (show (Addr.add _ _).block ≠ _; rw [add_block]; exact Kd.own_blk (IsS92.own_ne HI0.out HO376.out (by decide))) | exact Kd.own_blk (IsS92.own_ne HI0.out HO376.out (by decide)))
        have HS2_ := keep_cell hk (hHeld.2.2.1) (by first | (rw [add_block]; exact Kd.own_blk (IsS92.own_ne HI0.out HO376.out (by decide))) | (show (Addr.add _ _).block ≠ _; rw [add_block]; exact Kd.own_blk (IsS92.own_ne HI0.out HO376.out (by decide))) | exact Kd.own_blk (IsS92.own_ne HI0.out HO376.out (by decide)))
        have HS3_ := keep_cell hk (hHeld.2.2.2.1) (by first | (rw [add_block]; exact Kd.own_blk (IsS92.own_ne HI0.out HO_3.out (by decide))) | (show (Addr.add _ _).block ≠ _; rw [add_block]; exact Kd.own_blk (IsS92.own_ne HI0.out HO_3.out (by decide))) | exact Kd.own_blk (IsS92.own_ne HI0.out HO_3.out (by decide)))
        have HS4_ := keep_cell hk (hHeld.2.2.2.2.1) (by first | (rw [add_block]; exact Kd.own_blk (IsS92.own_ne HI0.out HO_3.out (by decide))) | (show (Addr.add _ _).block ≠ _; rw [add_block]; exact Kd.own_blk (IsS92.own_ne HI0.out HO_3.out (by decide))) | exact Kd.own_blk (IsS92.own_ne HI0.out HO_3.out (by decide)))
        have HS5_ := keep_cell hk (hHeld.2.2.2.2.2) (by first | (rw [add_block]; exact Kd.own_blk (IsS92.own_ne HI0.out HO_3.out (by decide))) | (show (Addr.add _ _).block ≠ _; rw [add_block]; exact Kd.own_blk (IsS92.own_ne HI0.out HO_3.out (by decide))) | exact Kd.own_blk (IsS92.own_ne HI0.out HO_3.out (by decide)))
        refine ⟨_, rfl, ?_⟩
        have n0_ := aM (Kd.R_mono (Kd.R_keep (IsS92.apart (show IsS92 w0 _ g s0_0 t371 t372 from by repeat (first | (with_reducible first | exact HI0.out | apply IsS92.alloc | apply IsS92.drewN | apply IsS92.drew | apply IsS92.set_1 | apply IsS92.set_2 | refine IsS92.far ?_ NB0_384.out _) | exact HI0.out)) (mR_ HO_3.out) (by decide)) hk (fun _ h => h.2)) (fun _ h => h.1))
        have n1_ := aM (Kd.R_mono (Kd.R_keep (IsS92.apart (show IsS92 w0 _ g s0_0 t371 t372 from by repeat (first | (with_reducible first | exact HI0.out | apply IsS92.alloc | apply IsS92.drewN | apply IsS92.drew | apply IsS92.set_1 | apply IsS92.set_2 | refine IsS92.far ?_ NB0_384.out _) | exact HI0.out)) (mR_ HO376.out) (by decide)) hk (fun _ h => h.2)) (fun _ h => h.1))
        have n2_ := aM (KeepBut.blk hk (g' := gb384) (o := .cells #[.int .i64 0, .int .i64 0, .int .i64 0] 47 (0, 0)) (mB_ BK384.out) NB384_0.out (by simp))
        have n3_ := aM (KeepBut.trans (by repeat (first | (with_reducible first | exact HK.out | apply KeepBut.set_ | apply keep_drewN | apply keep_drew | apply keep_alloc | refine keep_far ?_ GW384.out _) | exact HK.out)) hk (.inl rfl))
        have n4_ := aM (hb)
        have n5_ := aM (hi)
        clear HO_3
        clear HO376
        clear BK384
        clear HK
        clear HB
        clear HI0
        have HO_3 := n0_
        have HO376 := n1_
        have BK384 := n2_
        have HK := n3_
        have HB := n4_
        have HI0 := n5_
        clear n0_ n1_ n2_ n3_ n4_ n5_
        (try clear hb)
        (try clear hb2)
        (try clear hk)
        (try clear hi)
        refine hK.out _ _ ⟨HS0_, HS1_, HS2_, HS3_, HS4_, HS5_⟩ (fun hHeld => ?_)
        clear hK K
        refine norm_ (a' := ?_) ?_ ?_
        rotate_left
        ·show Act.put _ (some 35) _ = _
         simp only [Act.put, xA, xB, xC, i64_w, i32_w]
         rfl
        refine pure_ (i := 10) (N := some 36) (v := ?_) (a' := ?_) #[true, true, true, true, true, true, true, true, true, true, true, false, false, true, false] rfl rfl zz (fun _ _ _ h => h) (Or.inl ⟨by rfl, ?_⟩) ?_ ?_
        rotate_left
        ·intro w'
         go_simp
         with_reducible rfl
        rotate_left
        ·simp only [Act.put, xA, xB, xC, i64_w, i32_w]
         rfl
        refine take_ (i := 11) (N := some 37) (v := ?_) (a' := ?_) #[true, true, true, true, true, true, true, true, true, true, true, true, false, true, false] rfl rfl (take_ofW HT_.out HW_.out (by kernel_rfl)) (fun _ _ _ h => h) (Or.inl ⟨by rfl, ?_⟩) hHeld ?_ ?_
        rotate_left
        ·rintro w' ⟨s0, s1, s2, s3, s4, s5⟩
         go_simp
         with_reducible rfl
        rotate_left
        ·simp only [Act.put, xA, xB, xC, i64_w, i32_w]
         rfl
        exact norm_ (by first | (simp only [putAll, Act.put, xA, xB, xC]; done) | (simp only [putAll, Act.put, xA, xB, xC]; rfl)) (hJ4_7_9_13 (((.slice (some ad380) t374.length c9_), gb384), ad380) _ ⟨hHeld, (mR_ HO376.out), (mR_ HO_3.out), (mB_ BK384.out), GW384.out, GE384.out, NB0_384.out, NB384_0.out, (by repeat (first | (with_reducible first | exact HI0.out | apply IsS92.alloc | apply IsS92.drewN | apply IsS92.drew | apply IsS92.set_1 | apply IsS92.set_2 | refine IsS92.far ?_ NB0_384.out _) | exact HI0.out)), (by repeat (first | (with_reducible first | exact HK.out | apply KeepBut.set_ | apply keep_drewN | apply keep_drew | apply keep_alloc | refine keep_far ?_ GW384.out _) | exact HK.out)), (by repeat (first | (with_reducible first | exact HB.out | apply below_alloc | apply pw_below_drewN | apply below_drew1 | refine below_set ?_ (IsS92.ge HI0.out) | refine below_set ?_ GE384.out) | exact HB.out)), ⟨_, rfl⟩⟩)
      ·skip
       rintro ⟨v375, ad380⟩ w31 ⟨hS_, h0_, h1_, h2_, h3_, h4_, ⟨c9_, hE9_⟩⟩
       replace hE9_ : v375 = Value.slice (some ad380) t374.length c9_ := hE9_
       subst hE9_
       have p380 : 0 ≤ (t377 : Int) := of_decide_eq_true za
       replace p380 := eq_true p380
       have q380 : t377 < (t374.length : Int) := of_decide_eq_true za
       replace q380 := eq_true q380
       refine more_ (S' := fun w' => (spec_l09Draw.c3 w' ad380 t377 t374 ((spec_l09Draw.d3 w' ad373 t370 x3_1)))) (fun _ h_ => h_) hS_ (fun hS_ => ?_)
       have n0_ : Aside0 (Kd.R k47 47 w31 w.heap.size (fun k_ => some k_ ≠ (.slice (some ad373) x3_1.length co26 : Value).ownBlock) (.slice (some ad380) t374.length c9_) t374) := ⟨h0_⟩
       have n1_ : Aside0 (Kd.R k47 47 w31 w.heap.size (fun k_ => some k_ ≠ ((.slice (some ad380) t374.length c9_) : Value).ownBlock) (.slice (some ad373) x3_1.length co26) x3_1) := ⟨h1_⟩
       have n2_ : Aside0 (IsS92 w0 w31 g s0_0 t378 t379) := ⟨h2_⟩
       have n3_ : Aside0 (KeepBut w w31 g none) := ⟨h3_⟩
       have n4_ : Aside0 (Below w0.heap.size w0 w31) := ⟨h4_⟩
       clear HO_3
       clear HI0
       clear HK
       clear HB
       clear h0_ h1_ h2_ h3_ h4_
       have HO376 := n0_
       have HO_3 := n1_
       have HI0 := n2_
       have HK := n3_
       have HB := n4_
       clear n0_ n1_ n2_ n3_ n4_
       have hHeld : (spec_l09Draw.c3 w31 ad380 t377 t374 ((spec_l09Draw.d3 w31 ad373 t370 x3_1))) := hS_
       refine norm_ (a' := ?_) ?_ ?_
       rotate_left
       ·simp only [putAll, Act.put, xA, xB, xC]
        rfl
       refine two_ (i := 12) (j := 13) (Ni := some 38) (Nj := some 5) #[true, true, true, true, true, true, true, true, true, true, true, true, true, false, false] #[true, true, true, true, true, true, true, true, true, true, true, true, false, true, false] rfl rfl rfl rfl (two_of HT_.out (by kernel_rfl)) (by decide) (by decide) (fun K hK => ?_) (fun K hK => ?_)
       ·skip
        refine goes_ Try.func54 (by kernel_rfl) rfl #[.agg #[.int .i64 ((rd_T47 x3_1 t370).f0), .int .i64 ((rd_T47 x3_1 t370).f1), .int .i64 ((rd_T47 x3_1 t370).f2)], .agg #[.int .i64 ((rd_T47 t374 t377).f0), .int .i64 ((rd_T47 t374 t377).f1), .int .i64 ((rd_T47 t374 t377).f2)]] (by rfl) rfl rfl zm ?_
        with_reducible refine (spec_l09Add.calls ((rd_T47 x3_1 t370).f0) ((rd_T47 x3_1 t370).f1) ((rd_T47 x3_1 t370).f2) ((rd_T47 t374 t377).f0) ((rd_T47 t374 t377).f1) ((rd_T47 t374 t377).f2) t381 t382 t383 _ A20.out).mono ?_
        rintro e w32 ⟨rfl, hb⟩
        have HS0_ := (hb.cell (World.block_lt_of_cell? _ _ (hHeld.1))).trans (hHeld.1)
        have HS1_ := (hb.cell (World.block_lt_of_cell? _ _ (hHeld.2.1))).trans (hHeld.2.1)
        have HS2_ := (hb.cell (World.block_lt_of_cell? _ _ (hHeld.2.2.1))).trans (hHeld.2.2.1)
        have HS3_ := (hb.cell (World.block_lt_of_cell? _ _ (hHeld.2.2.2.1))).trans (hHeld.2.2.2.1)
        have HS4_ := (hb.cell (World.block_lt_of_cell? _ _ (hHeld.2.2.2.2.1))).trans (hHeld.2.2.2.2.1)
        have HS5_ := (hb.cell (World.block_lt_of_cell? _ _ (hHeld.2.2.2.2.2))).trans (hHeld.2.2.2.2.2)
        refine ⟨_, rfl, ?_⟩
        have n0_ := aM (Kd.R_below (mR_ HO_3.out) hb)
        have n1_ := aM (Kd.R_below (mR_ HO376.out) hb)
        have n2_ := aM (IsS92.below (zI92 HI0.out) hb)
        have n3_ := aM (KeepBut.trans (zK HK.out) (KeepBut.of_below hb g none) (.inl rfl))
        have n4_ := aM (below_step (zs (IsS92.ge HI0.out)) hb)
        clear HO_3
        clear HO376
        clear HI0
        clear HK
        clear HB
        have HO_3 := n0_
        have HO376 := n1_
        have HI0 := n2_
        have HK := n3_
        have HB := n4_
        clear n0_ n1_ n2_ n3_ n4_
        (try clear hb)
        (try clear hb2)
        (try clear hk)
        (try clear hi)
        refine hK.out _ _ ⟨HS0_, HS1_, HS2_, HS3_, HS4_, HS5_⟩ (fun hHeld => ?_)
        clear hK K
        refine norm_ (a' := ?_) ?_ ?_
        rotate_left
        ·show Act.put _ (some 38) _ = _
         simp only [Act.put, xA, xB, xC, i64_w, i32_w]
         rfl
        exact norm_ (by first | (simp only [putAll, Act.put, xA, xB, xC]; done) | (simp only [putAll, Act.put, xA, xB, xC]; rfl)) (hJ4_7_9_12 (((.slice (some ad380) t374.length c9_)), ad380) _ ⟨hHeld, (mR_ HO376.out), (mR_ HO_3.out), (zI92 HI0.out), (zK HK.out), (zs (IsS92.ge HI0.out)), ⟨_, rfl⟩⟩)
       ·skip
        refine box_step ?hg (N := 5) ?hd (cs := #[.int .i64 0, .int .i64 0, .int .i64 0]) (t := 47) ?hr ?_; (case hd => rfl); (case hg => rfl); (case hr => first | (go_simp; done) | (go_simp; rfl))
        intro gb384 hg w32 hbox hb
        have HS0_ := (hb.cell (World.block_lt_of_cell? _ _ (hHeld.1))).trans (hHeld.1)
        have HS1_ := (hb.cell (World.block_lt_of_cell? _ _ (hHeld.2.1))).trans (hHeld.2.1)
        have HS2_ := (hb.cell (World.block_lt_of_cell? _ _ (hHeld.2.2.1))).trans (hHeld.2.2.1)
        have HS3_ := (hb.cell (World.block_lt_of_cell? _ _ (hHeld.2.2.2.1))).trans (hHeld.2.2.2.1)
        have HS4_ := (hb.cell (World.block_lt_of_cell? _ _ (hHeld.2.2.2.2.1))).trans (hHeld.2.2.2.2.1)
        have HS5_ := (hb.cell (World.block_lt_of_cell? _ _ (hHeld.2.2.2.2.2))).trans (hHeld.2.2.2.2.2)
        have n0_ := aM (Kd.R_below (Kd.R_elderB (mR_ HO_3.out) gb384 (Nat.le_of_eq hg.symm)) hb)
        have n1_ := aM (Kd.R_below (Kd.R_elderB (mR_ HO376.out) gb384 (Nat.le_of_eq hg.symm)) hb)
        have n2_ := aM (IsS92.below (zI92 HI0.out) hb)
        have n3_ := aM (KeepBut.trans (zK HK.out) (KeepBut.of_below hb g none) (.inl rfl))
        have n4_ := aM (below_step (zs (IsS92.ge HI0.out)) hb)
        have n5_ := aM (hbox)
        have n6_ := aM ((by rw [hg]; exact (keep_size (w := w) (g := g) (row := none) (zK HK.out)) : w.heap.size ≤ gb384))
        have n7_ := aM ((Nat.le_trans HW0.out (by rw [hg]; exact (keep_size (w := w) (g := g) (row := none) (zK HK.out)) : w.heap.size ≤ gb384) : w0.heap.size ≤ gb384))
        have n8_ := aM ((by rw [hg]; exact Nat.ne_of_lt (IsS92.lt (show IsS92 w0 _ g s0_0 t378 t379 from zI92 HI0.out)) : g ≠ gb384))
        have n9_ := aM ((by rw [hg]; exact Nat.ne_of_gt (IsS92.lt (show IsS92 w0 _ g s0_0 t378 t379 from zI92 HI0.out)) : gb384 ≠ g))
        clear HO_3
        clear HO376
        clear HI0
        clear HK
        clear HB
        have HO_3 := n0_
        have HO376 := n1_
        have HI0 := n2_
        have HK := n3_
        have HB := n4_
        have BK384 := n5_
        have GW384 := n6_
        have GE384 := n7_
        have NB0_384 := n8_
        have NB384_0 := n9_
        clear n0_ n1_ n2_ n3_ n4_ n5_ n6_ n7_ n8_ n9_
        clear hb hbox hg
        refine hK.out _ _ ⟨HS0_, HS1_, HS2_, HS3_, HS4_, HS5_⟩ (fun hHeld => ?_)
        clear hK K
        refine norm_ (a' := ?_) ?_ ?_
        rotate_left
        ·show Act.put _ (some 5) _ = _
         simp only [Act.put, xA, xB, xC, i64_w, i32_w]
         rfl
        exact norm_ (by first | (simp only [putAll, Act.put, xA, xB, xC]; done) | (simp only [putAll, Act.put, xA, xB, xC]; rfl)) (hJ4_7_9_13 (((.slice (some ad380) t374.length c9_), gb384), ad380) _ ⟨hHeld, (mR_ HO376.out), (mR_ HO_3.out), (mB_ BK384.out), GW384.out, GE384.out, NB0_384.out, NB384_0.out, (by repeat (first | (with_reducible first | exact HI0.out | apply IsS92.alloc | apply IsS92.drewN | apply IsS92.drew | apply IsS92.set_1 | apply IsS92.set_2 | refine IsS92.far ?_ NB0_384.out _) | exact HI0.out)), (by repeat (first | (with_reducible first | exact HK.out | apply KeepBut.set_ | apply keep_drewN | apply keep_drew | apply keep_alloc | refine keep_far ?_ GW384.out _) | exact HK.out)), (by repeat (first | (with_reducible first | exact HB.out | apply below_alloc | apply pw_below_drewN | apply below_drew1 | refine below_set ?_ (IsS92.ge HI0.out) | refine below_set ?_ GE384.out) | exact HB.out)), ⟨_, rfl⟩⟩)
     ·skip
      rintro ⟨⟨v375, gb384⟩, ad380⟩ w32 ⟨hS_, h0_, h1_, h2_, h3_, h4_, h5_, h6_, h7_, h8_, h9_, ⟨c9_, hE9_⟩⟩
      replace hE9_ : v375 = Value.slice (some ad380) t374.length c9_ := hE9_
      subst hE9_
      have p380 : 0 ≤ (t377 : Int) := of_decide_eq_true za
      replace p380 := eq_true p380
      have q380 : t377 < (t374.length : Int) := of_decide_eq_true za
      replace q380 := eq_true q380
      refine more_ (S' := fun w' => (spec_l09Draw.c3 w' ad380 t377 t374 ((spec_l09Draw.d3 w' ad373 t370 x3_1)))) (fun _ h_ => h_) hS_ (fun hS_ => ?_)
      have n0_ : Aside0 (Kd.R k47 47 w32 w.heap.size (fun k_ => some k_ ≠ (.slice (some ad373) x3_1.length co26 : Value).ownBlock ∧ k_ ≠ gb384) (.slice (some ad380) t374.length c9_) t374) := ⟨h0_⟩
      have n1_ : Aside0 (Kd.R k47 47 w32 w.heap.size (fun k_ => some k_ ≠ ((.slice (some ad380) t374.length c9_) : Value).ownBlock ∧ k_ ≠ gb384) (.slice (some ad373) x3_1.length co26) x3_1) := ⟨h1_⟩
      have n2_ : Aside0 (w32.heap[gb384]? = some (.cells #[.int .i64 0, .int .i64 0, .int .i64 0] 47 (0, 0))) := ⟨h2_⟩
      have n3_ : Aside0 (w.heap.size ≤ gb384) := ⟨h3_⟩
      have n4_ : Aside0 (w0.heap.size ≤ gb384) := ⟨h4_⟩
      have n5_ : Aside0 (g ≠ gb384) := ⟨h5_⟩
      have n6_ : Aside0 (gb384 ≠ g) := ⟨h6_⟩
      have n7_ : Aside0 (IsS92 w0 w32 g s0_0 t378 t379) := ⟨h7_⟩
      have n8_ : Aside0 (KeepBut w w32 g none) := ⟨h8_⟩
      have n9_ : Aside0 (Below w0.heap.size w0 w32) := ⟨h9_⟩
      clear HO_3
      clear HI0
      clear HK
      clear HB
      clear h0_ h1_ h2_ h3_ h4_ h5_ h6_ h7_ h8_ h9_
      have HO376 := n0_
      have HO_3 := n1_
      have BK384 := n2_
      have GW384 := n3_
      have GE384 := n4_
      have NB0_384 := n5_
      have NB384_0 := n6_
      have HI0 := n7_
      have HK := n8_
      have HB := n9_
      clear n0_ n1_ n2_ n3_ n4_ n5_ n6_ n7_ n8_ n9_
      have hHeld : (spec_l09Draw.c3 w32 ad380 t377 t374 ((spec_l09Draw.d3 w32 ad373 t370 x3_1))) := hS_
      refine norm_ (a' := ?_) ?_ ?_
      rotate_left
      ·simp only [putAll, Act.put, xA, xB, xC]
       rfl
      refine one_ (i := 12) (N := some 38) #[true, true, true, true, true, true, true, true, true, true, true, true, true, true, false] rfl rfl (one_of HT_.out (by kernel_rfl)) (by decide) (fun K hK => ?_)
      refine goes_ Try.func54 (by kernel_rfl) rfl #[.agg #[.int .i64 ((rd_T47 x3_1 t370).f0), .int .i64 ((rd_T47 x3_1 t370).f1), .int .i64 ((rd_T47 x3_1 t370).f2)], .agg #[.int .i64 ((rd_T47 t374 t377).f0), .int .i64 ((rd_T47 t374 t377).f1), .int .i64 ((rd_T47 t374 t377).f2)]] (by rfl) rfl rfl zm ?_
      with_reducible refine (spec_l09Add.calls ((rd_T47 x3_1 t370).f0) ((rd_T47 x3_1 t370).f1) ((rd_T47 x3_1 t370).f2) ((rd_T47 t374 t377).f0) ((rd_T47 t374 t377).f1) ((rd_T47 t374 t377).f2) t381 t382 t383 _ A20.out).mono ?_
      rintro e w33 ⟨rfl, hb⟩
      have HS0_ := (hb.cell (World.block_lt_of_cell? _ _ (hHeld.1))).trans (hHeld.1)
      have HS1_ := (hb.cell (World.block_lt_of_cell? _ _ (hHeld.2.1))).trans (hHeld.2.1)
      have HS2_ := (hb.cell (World.block_lt_of_cell? _ _ (hHeld.2.2.1))).trans (hHeld.2.2.1)
      have HS3_ := (hb.cell (World.block_lt_of_cell? _ _ (hHeld.2.2.2.1))).trans (hHeld.2.2.2.1)
      have HS4_ := (hb.cell (World.block_lt_of_cell? _ _ (hHeld.2.2.2.2.1))).trans (hHeld.2.2.2.2.1)
      have HS5_ := (hb.cell (World.block_lt_of_cell? _ _ (hHeld.2.2.2.2.2))).trans (hHeld.2.2.2.2.2)
      refine ⟨_, rfl, ?_⟩
      have n0_ := aM (Kd.R_below (mR_ HO_3.out) hb)
      have n1_ := aM (Kd.R_below (mR_ HO376.out) hb)
      have n2_ := aM (IsS92.below (by repeat (first | (with_reducible first | exact HI0.out | apply IsS92.alloc | apply IsS92.drewN | apply IsS92.drew | apply IsS92.set_1 | apply IsS92.set_2 | refine IsS92.far ?_ NB0_384.out _) | exact HI0.out)) hb)
      have n3_ := aM (blk_below (g := gb384) (o := .cells #[.int .i64 0, .int .i64 0, .int .i64 0] 47 (0, 0)) (mB_ BK384.out) hb)
      have n4_ := aM (KeepBut.trans (by repeat (first | (with_reducible first | exact HK.out | apply KeepBut.set_ | apply keep_drewN | apply keep_drew | apply keep_alloc | refine keep_far ?_ GW384.out _) | exact HK.out)) (KeepBut.of_below hb g none) (.inl rfl))
      have n5_ := aM (below_step (by repeat (first | (with_reducible first | exact HB.out | apply below_alloc | apply pw_below_drewN | apply below_drew1 | refine below_set ?_ (IsS92.ge HI0.out) | refine below_set ?_ GE384.out) | exact HB.out)) hb)
      clear HO_3
      clear HO376
      clear HI0
      clear BK384
      clear HK
      clear HB
      have HO_3 := n0_
      have HO376 := n1_
      have HI0 := n2_
      have BK384 := n3_
      have HK := n4_
      have HB := n5_
      clear n0_ n1_ n2_ n3_ n4_ n5_
      (try clear hb)
      (try clear hb2)
      (try clear hk)
      (try clear hi)
      refine hK.out _ _ ⟨HS0_, HS1_, HS2_, HS3_, HS4_, HS5_⟩ (fun hHeld => ?_)
      clear hK K
      refine norm_ (a' := ?_) ?_ ?_
      rotate_left
      ·show Act.put _ (some 38) _ = _
       simp only [Act.put, xA, xB, xC, i64_w, i32_w]
       rfl
      exact norm_ (by first | (simp only [putAll, Act.put, xA, xB, xC]; done) | (simp only [putAll, Act.put, xA, xB, xC]; rfl)) (hJ4_7_9_12_13 (((.slice (some ad380) t374.length c9_), gb384), ad380) _ ⟨hHeld, (mR_ HO376.out), (mR_ HO_3.out), (mB_ BK384.out), GW384.out, GE384.out, NB0_384.out, NB384_0.out, (by repeat (first | (with_reducible first | exact HI0.out | apply IsS92.alloc | apply IsS92.drewN | apply IsS92.drew | apply IsS92.set_1 | apply IsS92.set_2 | refine IsS92.far ?_ NB0_384.out _) | exact HI0.out)), (by repeat (first | (with_reducible first | exact HK.out | apply KeepBut.set_ | apply keep_drewN | apply keep_drew | apply keep_alloc | refine keep_far ?_ GW384.out _) | exact HK.out)), (by repeat (first | (with_reducible first | exact HB.out | apply below_alloc | apply pw_below_drewN | apply below_drew1 | refine below_set ?_ (IsS92.ge HI0.out) | refine below_set ?_ GE384.out) | exact HB.out)), ⟨_, rfl⟩⟩)
    ·skip
     rintro ⟨v375, ad380⟩ w32 ⟨hS_, h0_, h1_, h2_, h3_, h4_, ⟨c9_, hE9_⟩⟩
     replace hE9_ : v375 = Value.slice (some ad380) t374.length c9_ := hE9_
     subst hE9_
     have p380 : 0 ≤ (t377 : Int) := of_decide_eq_true za
     replace p380 := eq_true p380
     have q380 : t377 < (t374.length : Int) := of_decide_eq_true za
     replace q380 := eq_true q380
     refine more_ (S' := fun w' => (spec_l09Draw.c3 w' ad380 t377 t374 ((spec_l09Draw.d3 w' ad373 t370 x3_1)))) (fun _ h_ => h_) hS_ (fun hS_ => ?_)
     have n0_ : Aside0 (Kd.R k47 47 w32 w.heap.size (fun k_ => some k_ ≠ (.slice (some ad373) x3_1.length co26 : Value).ownBlock) (.slice (some ad380) t374.length c9_) t374) := ⟨h0_⟩
     have n1_ : Aside0 (Kd.R k47 47 w32 w.heap.size (fun k_ => some k_ ≠ ((.slice (some ad380) t374.length c9_) : Value).ownBlock) (.slice (some ad373) x3_1.length co26) x3_1) := ⟨h1_⟩
     have n2_ : Aside0 (IsS92 w0 w32 g s0_0 t378 t379) := ⟨h2_⟩
     have n3_ : Aside0 (KeepBut w w32 g none) := ⟨h3_⟩
     have n4_ : Aside0 (Below w0.heap.size w0 w32) := ⟨h4_⟩
     clear HO_3
     clear HI0
     clear HK
     clear HB
     clear h0_ h1_ h2_ h3_ h4_
     have HO376 := n0_
     have HO_3 := n1_
     have HI0 := n2_
     have HK := n3_
     have HB := n4_
     clear n0_ n1_ n2_ n3_ n4_
     have hHeld : (spec_l09Draw.c3 w32 ad380 t377 t374 ((spec_l09Draw.d3 w32 ad373 t370 x3_1))) := hS_
     refine norm_ (a' := ?_) ?_ ?_
     rotate_left
     ·simp only [putAll, Act.put, xA, xB, xC]
      rfl
     refine one_ (i := 13) (N := some 5) #[true, true, true, true, true, true, true, true, true, true, true, true, true, true, false] rfl rfl (one_of HT_.out (by kernel_rfl)) (by decide) (fun K hK => ?_)
     refine box_step ?hg (N := 5) ?hd (cs := #[.int .i64 0, .int .i64 0, .int .i64 0]) (t := 47) ?hr ?_; (case hd => rfl); (case hg => rfl); (case hr => first | (go_simp; done) | (go_simp; rfl))
     intro gb384 hg w33 hbox hb
     have HS0_ := (hb.cell (World.block_lt_of_cell? _ _ (hHeld.1))).trans (hHeld.1)
     have HS1_ := (hb.cell (World.block_lt_of_cell? _ _ (hHeld.2.1))).trans (hHeld.2.1)
     have HS2_ := (hb.cell (World.block_lt_of_cell? _ _ (hHeld.2.2.1))).trans (hHeld.2.2.1)
     have HS3_ := (hb.cell (World.block_lt_of_cell? _ _ (hHeld.2.2.2.1))).trans (hHeld.2.2.2.1)
     have HS4_ := (hb.cell (World.block_lt_of_cell? _ _ (hHeld.2.2.2.2.1))).trans (hHeld.2.2.2.2.1)
     have HS5_ := (hb.cell (World.block_lt_of_cell? _ _ (hHeld.2.2.2.2.2))).trans (hHeld.2.2.2.2.2)
     have n0_ := aM (Kd.R_below (Kd.R_elderB (mR_ HO_3.out) gb384 (Nat.le_of_eq hg.symm)) hb)
     have n1_ := aM (Kd.R_below (Kd.R_elderB (mR_ HO376.out) gb384 (Nat.le_of_eq hg.symm)) hb)
     have n2_ := aM (IsS92.below (zI92 HI0.out) hb)
     have n3_ := aM (KeepBut.trans (zK HK.out) (KeepBut.of_below hb g none) (.inl rfl))
     have n4_ := aM (below_step (zs (IsS92.ge HI0.out)) hb)
     have n5_ := aM (hbox)
     have n6_ := aM ((by rw [hg]; exact (keep_size (w := w) (g := g) (row := none) (zK HK.out)) : w.heap.size ≤ gb384))
     have n7_ := aM ((Nat.le_trans HW0.out (by rw [hg]; exact (keep_size (w := w) (g := g) (row := none) (zK HK.out)) : w.heap.size ≤ gb384) : w0.heap.size ≤ gb384))
     have n8_ := aM ((by rw [hg]; exact Nat.ne_of_lt (IsS92.lt (show IsS92 w0 _ g s0_0 t378 t379 from zI92 HI0.out)) : g ≠ gb384))
     have n9_ := aM ((by rw [hg]; exact Nat.ne_of_gt (IsS92.lt (show IsS92 w0 _ g s0_0 t378 t379 from zI92 HI0.out)) : gb384 ≠ g))
     clear HO_3
     clear HO376
     clear HI0
     clear HK
     clear HB
     have HO_3 := n0_
     have HO376 := n1_
     have HI0 := n2_
     have HK := n3_
     have HB := n4_
     have BK384 := n5_
     have GW384 := n6_
     have GE384 := n7_
     have NB0_384 := n8_
     have NB384_0 := n9_
     clear n0_ n1_ n2_ n3_ n4_ n5_ n6_ n7_ n8_ n9_
     clear hb hbox hg
     refine hK.out _ _ ⟨HS0_, HS1_, HS2_, HS3_, HS4_, HS5_⟩ (fun hHeld => ?_)
     clear hK K
     refine norm_ (a' := ?_) ?_ ?_
     rotate_left
     ·show Act.put _ (some 5) _ = _
      simp only [Act.put, xA, xB, xC, i64_w, i32_w]
      rfl
     exact norm_ (by first | (simp only [putAll, Act.put, xA, xB, xC]; done) | (simp only [putAll, Act.put, xA, xB, xC]; rfl)) (hJ4_7_9_12_13 (((.slice (some ad380) t374.length c9_), gb384), ad380) _ ⟨hHeld, (mR_ HO376.out), (mR_ HO_3.out), (mB_ BK384.out), GW384.out, GE384.out, NB0_384.out, NB384_0.out, (by repeat (first | (with_reducible first | exact HI0.out | apply IsS92.alloc | apply IsS92.drewN | apply IsS92.drew | apply IsS92.set_1 | apply IsS92.set_2 | refine IsS92.far ?_ NB0_384.out _) | exact HI0.out)), (by repeat (first | (with_reducible first | exact HK.out | apply KeepBut.set_ | apply keep_drewN | apply keep_drew | apply keep_alloc | refine keep_far ?_ GW384.out _) | exact HK.out)), (by repeat (first | (with_reducible first | exact HB.out | apply below_alloc | apply pw_below_drewN | apply below_drew1 | refine below_set ?_ (IsS92.ge HI0.out) | refine below_set ?_ GE384.out) | exact HB.out)), ⟨_, rfl⟩⟩)
   rintro ⟨⟨v375, gb384⟩, ad380⟩ w33 ⟨hS_, h0_, h1_, h2_, h3_, h4_, h5_, h6_, h7_, h8_, h9_, ⟨c9_, hE9_⟩⟩
   replace hE9_ : v375 = Value.slice (some ad380) t374.length c9_ := hE9_
   subst hE9_
   have p380 : 0 ≤ (t377 : Int) := of_decide_eq_true za
   replace p380 := eq_true p380
   have q380 : t377 < (t374.length : Int) := of_decide_eq_true za
   replace q380 := eq_true q380
   refine more_ (S' := fun w' => (spec_l09Draw.c3 w' ad380 t377 t374 ((spec_l09Draw.d3 w' ad373 t370 x3_1)))) (fun _ h_ => h_) hS_ (fun hS_ => ?_)
   have n0_ : Aside0 (Kd.R k47 47 w33 w.heap.size (fun k_ => some k_ ≠ (.slice (some ad373) x3_1.length co26 : Value).ownBlock ∧ k_ ≠ gb384) (.slice (some ad380) t374.length c9_) t374) := ⟨h0_⟩
   have n1_ : Aside0 (Kd.R k47 47 w33 w.heap.size (fun k_ => some k_ ≠ ((.slice (some ad380) t374.length c9_) : Value).ownBlock ∧ k_ ≠ gb384) (.slice (some ad373) x3_1.length co26) x3_1) := ⟨h1_⟩
   have n2_ : Aside0 (w33.heap[gb384]? = some (.cells #[.int .i64 0, .int .i64 0, .int .i64 0] 47 (0, 0))) := ⟨h2_⟩
   have n3_ : Aside0 (w.heap.size ≤ gb384) := ⟨h3_⟩
   have n4_ : Aside0 (w0.heap.size ≤ gb384) := ⟨h4_⟩
   have n5_ : Aside0 (g ≠ gb384) := ⟨h5_⟩
   have n6_ : Aside0 (gb384 ≠ g) := ⟨h6_⟩
   have n7_ : Aside0 (IsS92 w0 w33 g s0_0 t378 t379) := ⟨h7_⟩
   have n8_ : Aside0 (KeepBut w w33 g none) := ⟨h8_⟩
   have n9_ : Aside0 (Below w0.heap.size w0 w33) := ⟨h9_⟩
   clear HO_3
   clear HI0
   clear HK
   clear HB
   clear h0_ h1_ h2_ h3_ h4_ h5_ h6_ h7_ h8_ h9_
   have HO376 := n0_
   have HO_3 := n1_
   have BK384 := n2_
   have GW384 := n3_
   have GE384 := n4_
   have NB0_384 := n5_
   have NB384_0 := n6_
   have HI0 := n7_
   have HK := n8_
   have HB := n9_
   clear n0_ n1_ n2_ n3_ n4_ n5_ n6_ n7_ n8_ n9_
   have hHeld : (spec_l09Draw.c3 w33 ad380 t377 t374 ((spec_l09Draw.d3 w33 ad373 t370 x3_1))) := hS_
   refine norm_ (a' := ?_) ?_ ?_
   rotate_left
   ·simp only [putAll, Act.put, xA, xB, xC]
    rfl
   refine one_ (i := 14) (N := none) #[true, true, true, true, true, true, true, true, true, true, true, true, true, true, true] rfl rfl (one_of HT_.out (by kernel_rfl)) (by decide) (fun K hK => ?_)
   have hs34 : w33.cell? ⟨gb384, 0, none⟩ = some (.int .i64 0) := (blk_cell BK384.out 0).trans rfl
   have hfs34 := blk_frozen BK384.out 0
   have hs35 : w33.cell? ⟨gb384, 1, none⟩ = some (.int .i64 0) := (blk_cell BK384.out 1).trans rfl
   have hfs35 := blk_frozen BK384.out 1
   have hs36 : w33.cell? ⟨gb384, 2, none⟩ = some (.int .i64 0) := (blk_cell BK384.out 2).trans rfl
   have hfs36 := blk_frozen BK384.out 2
   refine skip_ (w1 := ?_) (by rfl) rfl ?_ ?_
   rotate_left
   ·go_simp
    rfl
   refine hK.out _ _ ⟨((cell_far (p := ⟨gb384, _, none⟩) (by first | exact Kd.own_blk (Kd.R_away HO376.out (fun _ hk => hk.2)) | (rw [add_block]; exact Kd.own_blk (Kd.R_away HO376.out (fun _ hk => hk.2))) | (show (Addr.add _ _).block ≠ _; rw [add_block]; exact Kd.own_blk (Kd.R_away HO376.out (fun _ hk => hk.2))) | (dsimp only; exact Kd.own_blk (Kd.R_away HO376.out (fun _ hk => hk.2)))) _).trans (((cell_far (p := ⟨gb384, _, none⟩) (by first | exact Kd.own_blk (Kd.R_away HO376.out (fun _ hk => hk.2)) | (rw [add_block]; exact Kd.own_blk (Kd.R_away HO376.out (fun _ hk => hk.2))) | (show (Addr.add _ _).block ≠ _; rw [add_block]; exact Kd.own_blk (Kd.R_away HO376.out (fun _ hk => hk.2))) | (dsimp only; exact Kd.own_blk (Kd.R_away HO376.out (fun _ hk => hk.2)))) _).trans (((cell_far (p := ⟨gb384, _, none⟩) (by first | exact Kd.own_blk (Kd.R_away HO376.out (fun _ hk => hk.2)) | (rw [add_block]; exact Kd.own_blk (Kd.R_away HO376.out (fun _ hk => hk.2))) | (show (Addr.add _ _).block ≠ _; rw [add_block]; exact Kd.own_blk (Kd.R_away HO376.out (fun _ hk => hk.2))) | (dsimp only; exact Kd.own_blk (Kd.R_away HO376.out (fun _ hk => hk.2)))) _).trans (hHeld.1)))))), ((cell_far (p := ⟨gb384, _, none⟩) (by first | exact Kd.own_blk (Kd.R_away HO376.out (fun _ hk => hk.2)) | (rw [add_block]; exact Kd.own_blk (Kd.R_away HO376.out (fun _ hk => hk.2))) | (show (Addr.add _ _).block ≠ _; rw [add_block]; exact Kd.own_blk (Kd.R_away HO376.out (fun _ hk => hk.2))) | (dsimp only; exact Kd.own_blk (Kd.R_away HO376.out (fun _ hk => hk.2)))) _).trans (((cell_far (p := ⟨gb384, _, none⟩) (by first | exact Kd.own_blk (Kd.R_away HO376.out (fun _ hk => hk.2)) | (rw [add_block]; exact Kd.own_blk (Kd.R_away HO376.out (fun _ hk => hk.2))) | (show (Addr.add _ _).block ≠ _; rw [add_block]; exact Kd.own_blk (Kd.R_away HO376.out (fun _ hk => hk.2))) | (dsimp only; exact Kd.own_blk (Kd.R_away HO376.out (fun _ hk => hk.2)))) _).trans (((cell_far (p := ⟨gb384, _, none⟩) (by first | exact Kd.own_blk (Kd.R_away HO376.out (fun _ hk => hk.2)) | (rw [add_block]; exact Kd.own_blk (Kd.R_away HO376.out (fun _ hk => hk.2))) | (show (Addr.add _ _).block ≠ _; rw [add_block]; exact Kd.own_blk (Kd.R_away HO376.out (fun _ hk => hk.2))) | (dsimp only; exact Kd.own_blk (Kd.R_away HO376.out (fun _ hk => hk.2)))) _).trans (hHeld.2.1)))))), ((cell_far (p := ⟨gb384, _, none⟩) (by first | exact Kd.own_blk (Kd.R_away HO376.out (fun _ hk => hk.2)) | (rw [add_block]; exact Kd.own_blk (Kd.R_away HO376.out (fun _ hk => hk.2))) | (show (Addr.add _ _).block ≠ _; rw [add_block]; exact Kd.own_blk (Kd.R_away HO376.out (fun _ hk => hk.2))) | (dsimp only; exact Kd.own_blk (Kd.R_away HO376.out (fun _ hk => hk.2)))) _).trans (((cell_far (p := ⟨gb384, _, none⟩) (by first | exact Kd.own_blk (Kd.R_away HO376.out (fun _ hk => hk.2)) | (rw [add_block]; exact Kd.own_blk (Kd.R_away HO376.out (fun _ hk => hk.2))) | (show (Addr.add _ _).block ≠ _; rw [add_block]; exact Kd.own_blk (Kd.R_away HO376.out (fun _ hk => hk.2))) | (dsimp only; exact Kd.own_blk (Kd.R_away HO376.out (fun _ hk => hk.2)))) _).trans (((cell_far (p := ⟨gb384, _, none⟩) (by first | exact Kd.own_blk (Kd.R_away HO376.out (fun _ hk => hk.2)) | (rw [add_block]; exact Kd.own_blk (Kd.R_away HO376.out (fun _ hk => hk.2))) | (show (Addr.add _ _).block ≠ _; rw [add_block]; exact Kd.own_blk (Kd.R_away HO376.out (fun _ hk => hk.2))) | (dsimp only; exact Kd.own_blk (Kd.R_away HO376.out (fun _ hk => hk.2)))) _).trans (hHeld.2.2.1)))))), ((cell_far (p := ⟨gb384, _, none⟩) (by first | exact Kd.own_blk (Kd.R_away HO_3.out (fun _ hk => hk.2)) | (rw [add_block]; exact Kd.own_blk (Kd.R_away HO_3.out (fun _ hk => hk.2))) | (show (Addr.add _ _).block ≠ _; rw [add_block]; exact Kd.own_blk (Kd.R_away HO_3.out (fun _ hk => hk.2))) | (dsimp only; exact Kd.own_blk (Kd.R_away HO_3.out (fun _ hk => hk.2)))) _).trans (((cell_far (p := ⟨gb384, _, none⟩) (by first | exact Kd.own_blk (Kd.R_away HO_3.out (fun _ hk => hk.2)) | (rw [add_block]; exact Kd.own_blk (Kd.R_away HO_3.out (fun _ hk => hk.2))) | (show (Addr.add _ _).block ≠ _; rw [add_block]; exact Kd.own_blk (Kd.R_away HO_3.out (fun _ hk => hk.2))) | (dsimp only; exact Kd.own_blk (Kd.R_away HO_3.out (fun _ hk => hk.2)))) _).trans (((cell_far (p := ⟨gb384, _, none⟩) (by first | exact Kd.own_blk (Kd.R_away HO_3.out (fun _ hk => hk.2)) | (rw [add_block]; exact Kd.own_blk (Kd.R_away HO_3.out (fun _ hk => hk.2))) | (show (Addr.add _ _).block ≠ _; rw [add_block]; exact Kd.own_blk (Kd.R_away HO_3.out (fun _ hk => hk.2))) | (dsimp only; exact Kd.own_blk (Kd.R_away HO_3.out (fun _ hk => hk.2)))) _).trans (hHeld.2.2.2.1)))))), ((cell_far (p := ⟨gb384, _, none⟩) (by first | exact Kd.own_blk (Kd.R_away HO_3.out (fun _ hk => hk.2)) | (rw [add_block]; exact Kd.own_blk (Kd.R_away HO_3.out (fun _ hk => hk.2))) | (show (Addr.add _ _).block ≠ _; rw [add_block]; exact Kd.own_blk (Kd.R_away HO_3.out (fun _ hk => hk.2))) | (dsimp only; exact Kd.own_blk (Kd.R_away HO_3.out (fun _ hk => hk.2)))) _).trans (((cell_far (p := ⟨gb384, _, none⟩) (by first | exact Kd.own_blk (Kd.R_away HO_3.out (fun _ hk => hk.2)) | (rw [add_block]; exact Kd.own_blk (Kd.R_away HO_3.out (fun _ hk => hk.2))) | (show (Addr.add _ _).block ≠ _; rw [add_block]; exact Kd.own_blk (Kd.R_away HO_3.out (fun _ hk => hk.2))) | (dsimp only; exact Kd.own_blk (Kd.R_away HO_3.out (fun _ hk => hk.2)))) _).trans (((cell_far (p := ⟨gb384, _, none⟩) (by first | exact Kd.own_blk (Kd.R_away HO_3.out (fun _ hk => hk.2)) | (rw [add_block]; exact Kd.own_blk (Kd.R_away HO_3.out (fun _ hk => hk.2))) | (show (Addr.add _ _).block ≠ _; rw [add_block]; exact Kd.own_blk (Kd.R_away HO_3.out (fun _ hk => hk.2))) | (dsimp only; exact Kd.own_blk (Kd.R_away HO_3.out (fun _ hk => hk.2)))) _).trans (hHeld.2.2.2.2.1)))))), ((cell_far (p := ⟨gb384, _, none⟩) (by first | exact Kd.own_blk (Kd.R_away HO_3.out (fun _ hk => hk.2)) | (rw [add_block]; exact Kd.own_blk (Kd.R_away HO_3.out (fun _ hk => hk.2))) | (show (Addr.add _ _).block ≠ _; rw [add_block]; exact Kd.own_blk (Kd.R_away HO_3.out (fun _ hk => hk.2))) | (dsimp only; exact Kd.own_blk (Kd.R_away HO_3.out (fun _ hk => hk.2)))) _).trans (((cell_far (p := ⟨gb384, _, none⟩) (by first | exact Kd.own_blk (Kd.R_away HO_3.out (fun _ hk => hk.2)) | (rw [add_block]; exact Kd.own_blk (Kd.R_away HO_3.out (fun _ hk => hk.2))) | (show (Addr.add _ _).block ≠ _; rw [add_block]; exact Kd.own_blk (Kd.R_away HO_3.out (fun _ hk => hk.2))) | (dsimp only; exact Kd.own_blk (Kd.R_away HO_3.out (fun _ hk => hk.2)))) _).trans (((cell_far (p := ⟨gb384, _, none⟩) (by first | exact Kd.own_blk (Kd.R_away HO_3.out (fun _ hk => hk.2)) | (rw [add_block]; exact Kd.own_blk (Kd.R_away HO_3.out (fun _ hk => hk.2))) | (show (Addr.add _ _).block ≠ _; rw [add_block]; exact Kd.own_blk (Kd.R_away HO_3.out (fun _ hk => hk.2))) | (dsimp only; exact Kd.own_blk (Kd.R_away HO_3.out (fun _ hk => hk.2)))) _).trans (hHeld.2.2.2.2.2))))))⟩ (fun hHeld => ?_)
   clear hK K
   refine done_ (done_of HT_.out (by kernel_rfl)) ?_
   have hnb37 := NB384_0.out
   have hnc37 := NB0_384.out
   have hcz38_0 : w33.cell? ⟨gb384, 0, none⟩ = some (.int .i64 0) := (blk_cell BK384.out 0).trans rfl
   have hcz38_1 : w33.cell? ⟨gb384, 1, none⟩ = some (.int .i64 0) := (blk_cell BK384.out 1).trans rfl
   have hcz38_2 : w33.cell? ⟨gb384, 2, none⟩ = some (.int .i64 0) := (blk_cell BK384.out 2).trans rfl
   have hfz38_0 := blk_frozen BK384.out 0
   have hfz38_1 := blk_frozen BK384.out 1
   have hfz38_2 := blk_frozen BK384.out 2
   try go_wp2_with (first | ((with_reducible refine gate_callee (f := 53) rfl ?_); refine goesL_ (some 41) rfl rfl Try.func53 (by kernel_rfl) rfl #[.slice (some ad373) x3_1.length co26, .agg #[.int .i64 t381, .int .i64 t382, .int .i64 t383]] rfl zm ?_; (with_reducible refine (spec_l09Index.calls k1 _ _ x3_1 t381 t382 t383 t385 _ ?side1 ?side2 A21.out).mono ?_); (case side1 => refine (Kd.R_reads' (e := 47) (base := w.heap.size) (ok := fun k_ => (some k_ ≠ ((.slice (some ad380) t374.length c9_) : Value).ownBlock ∧ k_ ≠ gb384)) (n := x3_1.length) (c := co26) ?_).2.2; exact (by (with_reducible repeat (first | apply Kd.R_alloc | apply Kd.R_drewN | apply Kd.R_drew)); exact (Kd.R_mono (Kd.R_far (p := ⟨gb384, 2, none⟩) (Kd.R_far (p := ⟨gb384, 1, none⟩) (Kd.R_far (p := ⟨gb384, 0, none⟩) (Kd.R_mono HO_3.out (fun k_ hk => (⟨hk, hk.2⟩ : _ ∧ k_ ≠ gb384))) (fun _ hk => hk.2) (.int .i64 t381)) (fun _ hk => hk.2) (.int .i64 t382)) (fun _ hk => hk.2) (.int .i64 t383)) (fun _ h_ => h_.1)))); (case side2 => exact (Kd.R_reads' HO_3.out).2.1); rintro e w39 ⟨rfl, hb⟩; refine ⟨_, rfl, ?_⟩; have n0_ := aM (Kd.R_below (by (with_reducible repeat (first | apply Kd.R_alloc | apply Kd.R_drewN | apply Kd.R_drew)); exact (Kd.R_mono (Kd.R_far (p := ⟨gb384, 2, none⟩) (Kd.R_far (p := ⟨gb384, 1, none⟩) (Kd.R_far (p := ⟨gb384, 0, none⟩) (Kd.R_mono HO_3.out (fun k_ hk => (⟨hk, hk.2⟩ : _ ∧ k_ ≠ gb384))) (fun _ hk => hk.2) (.int .i64 t381)) (fun _ hk => hk.2) (.int .i64 t382)) (fun _ hk => hk.2) (.int .i64 t383)) (fun _ h_ => h_.1))) hb); have n1_ := aM (Kd.R_below (by (with_reducible repeat (first | apply Kd.R_alloc | apply Kd.R_drewN | apply Kd.R_drew)); exact (Kd.R_mono (Kd.R_far (p := ⟨gb384, 2, none⟩) (Kd.R_far (p := ⟨gb384, 1, none⟩) (Kd.R_far (p := ⟨gb384, 0, none⟩) (Kd.R_mono HO376.out (fun k_ hk => (⟨hk, hk.2⟩ : _ ∧ k_ ≠ gb384))) (fun _ hk => hk.2) (.int .i64 t381)) (fun _ hk => hk.2) (.int .i64 t382)) (fun _ hk => hk.2) (.int .i64 t383)) (fun _ h_ => h_.1))) hb); have n2_ := aM (IsS92.below (show IsS92 w0 (((w33.setCell ⟨gb384, 0, none⟩ (.int .i64 t381)).setCell ⟨gb384, 1, none⟩ (.int .i64 t382)).setCell ⟨gb384, 2, none⟩ (.int .i64 t383)) g s0_0 t378 t379 from by repeat (first | (with_reducible first | exact HI0.out | apply IsS92.alloc | apply IsS92.drewN | apply IsS92.drew | apply IsS92.set_1 | apply IsS92.set_2 | refine IsS92.far ?_ NB0_384.out _) | exact HI0.out)) hb); have n3_ := aM (blk_below (g := gb384) (o := .cells #[.int .i64 t381, .int .i64 t382, .int .i64 t383] 47 (0, 0)) (by (with_reducible repeat (first | refine blk_drewN ?_ _ | refine blk_drew ?_ | refine blk_alloc ?_ _)); refine blk_put (cs := #[.int .i64 t381, .int .i64 t382, .int .i64 0]) ?_ 2 _ rfl; (with_reducible repeat (first | refine blk_drewN ?_ _ | refine blk_drew ?_ | refine blk_alloc ?_ _)); refine blk_put (cs := #[.int .i64 t381, .int .i64 0, .int .i64 0]) ?_ 1 _ rfl; (with_reducible repeat (first | refine blk_drewN ?_ _ | refine blk_drew ?_ | refine blk_alloc ?_ _)); refine blk_put (cs := #[.int .i64 0, .int .i64 0, .int .i64 0]) ?_ 0 _ rfl; (with_reducible repeat (first | refine blk_drewN ?_ _ | refine blk_drew ?_ | refine blk_alloc ?_ _)); exact BK384.out) hb); have n4_ := aM (KeepBut.trans (by repeat (first | (with_reducible first | exact HK.out | apply KeepBut.set_ | apply keep_drewN | apply keep_drew | apply keep_alloc | refine keep_far ?_ GW384.out _) | exact HK.out)) (KeepBut.of_below hb g none) (.inl rfl)); have n5_ := aM (below_step (by repeat (first | (with_reducible first | exact HB.out | apply below_alloc | apply pw_below_drewN | apply below_drew1 | refine below_set ?_ (IsS92.ge HI0.out) | refine below_set ?_ GE384.out) | exact HB.out)) hb); clear HO_3; clear HO376; clear HI0; clear BK384; clear HK; clear HB; have HO_3 := n0_; have HO376 := n1_; have HI0 := n2_; have BK384 := n3_; have HK := n4_; have HB := n5_; clear n0_ n1_ n2_ n3_ n4_ n5_; (try clear hb); (try clear hb2); (try clear hk); (try clear hi); have hcz40_0 : w39.cell? ⟨gb384, 0, none⟩ = some (.int .i64 t381) := (blk_cell BK384.out 0).trans rfl; have hcz40_1 : w39.cell? ⟨gb384, 1, none⟩ = some (.int .i64 t382) := (blk_cell BK384.out 1).trans rfl; have hcz40_2 : w39.cell? ⟨gb384, 2, none⟩ = some (.int .i64 t383) := (blk_cell BK384.out 2).trans rfl; have hfz40_0 := blk_frozen BK384.out 0; have hfz40_1 := blk_frozen BK384.out 1; have hfz40_2 := blk_frozen BK384.out 2) | ((with_reducible refine gate_builtin (b := .append) (xs := #[.tmp 43, .tmp 45]) rfl ?_); at_builtin; refine Kd.R_append k47 w.heap.size rfl (.tmp 43) (.tmp 45) 35 47 (.agg #[(.int .i64 0), (.int .i64 0), (.int .i64 0)]) 24 rfl Try.underlying35 info47 rfl (by decide) (by omega) (.slice (some ad373) x3_1.length co26) x3_1 (⟨t381, t382, t383⟩ : S47) [.int .i64 t381, .int .i64 t382, .int .i64 t383] (fun k_ => some k_ ≠ ((.slice (some ad380) t374.length c9_) : Value).ownBlock ∧ k_ ≠ gb384) (fun _ => False) rfl rfl ?aP (fun _ hk => hk.elim) ?aF ?aO (Below.refl _ _) ?aS ?aL ?_; (case aP => exact k47_mkM _ _ _ (⟨t381, t382, t383⟩ : S47)); (case aF => exact (fun k_ hk => ⟨Kd.fresh' (Kd.R_lt (mR_ HO376.out)) k_ hk, Kd.freshB (g := gb384) (o := .cells #[.int .i64 t381, .int .i64 t382, .int .i64 t383] 47 (0, 0)) (mB_ BK384.out) k_ hk⟩)); (case aO => exact (mR_ HO_3.out)); (case aS => exact (keep_size (w := w) (g := g) (row := none) (by repeat (first | (with_reducible first | exact HK.out | apply KeepBut.set_ | apply keep_drewN | apply keep_drew | apply keep_alloc | refine keep_far ?_ GW384.out _) | exact HK.out)))); (case aL => have := LMc23.out; omega); intro v387 w41 ho hb hg hat; rw [← Ny386.out] at ho; have n0_ := aM (IsS92.grown (by repeat (first | (with_reducible first | exact HI0.out | apply IsS92.alloc | apply IsS92.drewN | apply IsS92.drew | apply IsS92.set_1 | apply IsS92.set_2 | refine IsS92.far ?_ NB0_384.out _) | exact HI0.out)) hg (IsS92.own_ne HI0.out HO_3.out (by decide))); have n1_ := aM (Kd.R_after (ok := (fun k_ => k_ ≠ gb384)) (by (with_reducible repeat (first | apply Kd.R_alloc | apply Kd.R_drewN | apply Kd.R_drew)); exact Kd.R_mono HO376.out (fun _ hk => ⟨hk.2, hk.1⟩)) hg hat); have n2_ := aM (blk_grown (g := gb384) (o := .cells #[.int .i64 t381, .int .i64 t382, .int .i64 t383] 47 (0, 0)) (mB_ BK384.out) hg (Kd.R_away HO_3.out (fun _ hk => hk.2))); have n3_ := aM (below_weaken (by repeat (first | (with_reducible first | exact HB.out | apply below_alloc | apply pw_below_drewN | apply below_drew1 | refine below_set ?_ (IsS92.ge HI0.out) | refine below_set ?_ GE384.out) | exact HB.out)) HL.out hb); have n4_ := aM (KeepBut.trans (by repeat (first | (with_reducible first | exact HK.out | apply KeepBut.set_ | apply keep_drewN | apply keep_drew | apply keep_alloc | refine keep_far ?_ GW384.out _) | exact HK.out)) (KeepBut.of_grown hg g) (Kd.R_base2 HO_3.out)); have n5_ := aM (ho); clear HI0; clear HO376; clear BK384; clear HB; clear HK; clear HO_3; have HI0 := n0_; have HO376 := n1_; have BK384 := n2_; have HB := n3_; have HK := n4_; have HO388 := n5_; clear n0_ n1_ n2_ n3_ n4_ n5_; clear ho hb hg hat; obtain ⟨Ao42, co42, eo42⟩ := Kd.R_slice HO388.out; subst eo42) | ((with_reducible refine gate_callee (f := 75) rfl ?_); refine goesL_ (some 47) rfl rfl Try.func75 (by kernel_rfl) rfl #[.slice Ao42 y386.length co42] rfl zm ?_; (with_reducible refine (spec_l09Sort.calls k1 _ _ y386 t389 _ ?side1 ?side2 A24.out).mono ?_); (case side1 => repeat (first | exact (Kd.R_reads' HO388.out).2.2 | (with_reducible refine Kd.C_alloc ?_ _) | (with_reducible refine Kd.C_drewN ?_ _) | (with_reducible refine Kd.C_drew ?_))); (case side2 => exact (Kd.R_reads' HO388.out).2.1); rintro e w43 ⟨v390, rfl, ho0, hb⟩; refine ⟨_, rfl, ?_⟩; have n0_ := aM (Kd.R_elder' (mR_ HO376.out) (Kd.R_base ho0) hb); have n1_ := aM (Kd.R_elder' (mR_ HO388.out) (Kd.R_base ho0) hb); have n2_ := aM (Kd.R_lower (Kd.R_newB (Kd.R_new' (Kd.R_new' ho0 (Kd.R_lt (mR_ HO376.out))) (Kd.R_lt (mR_ HO388.out))) (g := gb384) (o := .cells #[.int .i64 t381, .int .i64 t382, .int .i64 t383] 47 (0, 0)) (mB_ BK384.out)) (keep_size (w := w) (g := g) (row := none) (by repeat (first | (with_reducible first | exact HK.out | apply KeepBut.set_ | apply keep_drewN | apply keep_drew | apply keep_alloc | refine keep_far ?_ GW384.out _) | exact HK.out)))); have n3_ := aM (IsS92.below (by repeat (first | (with_reducible first | exact HI0.out | apply IsS92.alloc | apply IsS92.drewN | apply IsS92.drew | apply IsS92.set_1 | apply IsS92.set_2 | refine IsS92.far ?_ NB0_384.out _) | exact HI0.out)) hb); have n4_ := aM (blk_below (g := gb384) (o := .cells #[.int .i64 t381, .int .i64 t382, .int .i64 t383] 47 (0, 0)) (mB_ BK384.out) hb); have n5_ := aM (KeepBut.trans (by repeat (first | (with_reducible first | exact HK.out | apply KeepBut.set_ | apply keep_drewN | apply keep_drew | apply keep_alloc | refine keep_far ?_ GW384.out _) | exact HK.out)) (KeepBut.of_below hb g none) (.inl rfl)); have n6_ := aM (below_step (by repeat (first | (with_reducible first | exact HB.out | apply below_alloc | apply pw_below_drewN | apply below_drew1 | refine below_set ?_ (IsS92.ge HI0.out) | refine below_set ?_ GE384.out) | exact HB.out)) hb); clear HO376; clear HO388; clear HI0; clear BK384; clear HK; clear HB; have HO376 := n0_; have HO388 := n1_; have HO391 := n2_; have HI0 := n3_; have BK384 := n4_; have HK := n5_; have HB := n6_; clear n0_ n1_ n2_ n3_ n4_ n5_ n6_; (try clear hb); (try clear hb2); (try clear hk); (try clear hi); (try clear ho0)))
   go_roundg k1
   case measure => have := HK1.out; omega
   case rel => exact ⟨(t389), (wrap64 (x4_1 - 1)), (t378), (t379), zr, H', ⟨by have := HK1.out; omega⟩, ⟨by (with_reducible repeat (first | apply Kd.R_alloc | apply Kd.R_drewN | apply Kd.R_drew)); exact Kd.R_mono HO391.out (fun _ hk => trivial)⟩, ⟨by repeat (first | (with_reducible first | exact HI0.out | apply IsS92.alloc | apply IsS92.drewN | apply IsS92.drew | apply IsS92.set_1 | apply IsS92.set_2 | refine IsS92.far ?_ NB0_384.out _) | exact HI0.out)⟩, ⟨by repeat (first | (with_reducible first | exact HK.out | apply KeepBut.set_ | apply keep_drewN | apply keep_drew | apply keep_alloc | refine keep_far ?_ GW384.out _) | exact HK.out)⟩, ⟨by repeat (first | (with_reducible first | exact HB.out | apply below_alloc | apply pw_below_drewN | apply below_drew1 | refine below_set ?_ (IsS92.ge HI0.out) | refine below_set ?_ GE384.out) | exact HB.out)⟩⟩
end Go.Proofs.Ytdcpahfpnjnmcaa.F
end
section
namespace Go.Proofs.Ytdcpahfpnjnmcaa.F
open Go.RowKit Go.Proofs.YtdcpahfpnjnmcaaW.PrintWords Go.Proofs.YtdcpahfpnjnmcaaW.PrintLast Go.Proofs.YtdcpahfpnjnmcaaW.PrintMore
attribute [local go_sem] max2_int min2_int max_two min_two max_three min_three max_four min_four
set_option linter.unusedVariables false
set_option linter.unusedSimpArgs false
attribute [local go_sem high] eqA47
end Go.Proofs.Ytdcpahfpnjnmcaa.F
end
