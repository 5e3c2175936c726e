/- The row of FnTurnNumbers, with what it needs: text 7 of 11. -/
import Derived.Test.YtfdfdifjkaaeoaaKTN5
set_option maxHeartbeats 8000000
set_option maxRecDepth 100000
section
namespace Go.Proofs.Ytfdfdifjkaaeoaa.F
open Go.RowKit Go.Proofs.YtfdfdifjkaaeoaaW.PrintWords Go.Proofs.YtfdfdifjkaaeoaaW.PrintLast Go.Proofs.YtfdfdifjkaaeoaaW.PrintMore
attribute [local go_sem] max2_int min2_int max_two min_two max_three min_three max_four min_four
set_option linter.unusedVariables false
set_option linter.unusedSimpArgs false
theorem spec_l10DrawSmall.calls (k : Nat) (g : Nat) (s0_0 : List Int) (s0_1 : Int) (s0_2 : Int) (r1 : List (S59)) (r2 : Int) (r3 : Int) (w0 w : World) (hI : IsS98 w0 w g s0_0 s0_1 s0_2) (hB : Below w0.heap.size w0 w) (h : spec_l10DrawSmall.f k s0_0 s0_1 s0_2 = some (r1, r2, r3)) :
  Calls Try.prog 119 #[.pointer (some ⟨g, 0, none⟩)] w fun e w' => ∃ v0_ : Value, e = .returned (v0_) ∧ Kd.R k59 59 w' w.heap.size (fun _ => True) v0_ r1 ∧ IsS98 w0 w' g s0_0 r2 r3 ∧ Below w0.heap.size w0 w' ∧ KeepBut w w' g none := by
 have HI0 := aM hI
 have HK := aM (KeepBut.refl w g none)
 have HL := aM hB.size
 clear hI
 have HW0 := aM hB.size
 have HB := aM hB
 clear hB
 have H : ((some (([(([3, 4] : List Int)), (([4, 3] : List Int)), (([2, 5] : List Int)), (([5, 2] : List Int)), (([3, 3] : List Int)), (([6, 2] : List Int)), (([4, 2] : List Int))] : List (List Int)) : List (List Int))).bind fun y942 => ((spec_l01Next.f s0_0 s0_1 s0_2 7).bind fun bt945 => (if 0 ≤ bt945.1 then (if bt945.1 < (y942.length : Int) then (if 0 < ((rd_L6 y942 bt945.1).length : Int) then (if 1 < ((rd_L6 y942 bt945.1).length : Int) then ((spec_l10Rectangle.f k (rd (rd_L6 y942 bt945.1) 0) (rd (rd_L6 y942 bt945.1) 1)).bind fun t951 => ((spec_l01Next.f s0_0 bt945.2.1 bt945.2.2 3).bind fun bt954 => (if bt954.1 = 0 then ((spec_l01Next.f s0_0 bt954.2.1 bt954.2.2 (t951.length : Int)).bind fun bt957 => ((spec_l05Without.f t951 bt957.1).bind fun t960 => ((spec_l02Normal.f k t960).bind fun t963 => (some (t963, bt957.2.1, bt957.2.2))))) else (some (t951, bt954.2.1, bt954.2.2))))) else (none)) else (none)) else (none)) else (none)))) = some (r1, r2, r3) := h
 clear h
 obtain ⟨y921, hy921⟩ : ∃ y_ : List Int, y_ = (([3, 4] : List Int)) := ⟨_, rfl⟩
 replace H : ((some (([y921, (([4, 3] : List Int)), (([2, 5] : List Int)), (([5, 2] : List Int)), (([3, 3] : List Int)), (([6, 2] : List Int)), (([4, 2] : List Int))] : List (List Int)) : List (List Int))).bind fun y942 => ((spec_l01Next.f s0_0 s0_1 s0_2 7).bind fun bt945 => (if 0 ≤ bt945.1 then (if bt945.1 < (y942.length : Int) then (if 0 < ((rd_L6 y942 bt945.1).length : Int) then (if 1 < ((rd_L6 y942 bt945.1).length : Int) then ((spec_l10Rectangle.f k (rd (rd_L6 y942 bt945.1) 0) (rd (rd_L6 y942 bt945.1) 1)).bind fun t951 => ((spec_l01Next.f s0_0 bt945.2.1 bt945.2.2 3).bind fun bt954 => (if bt954.1 = 0 then ((spec_l01Next.f s0_0 bt954.2.1 bt954.2.2 (t951.length : Int)).bind fun bt957 => ((spec_l05Without.f t951 bt957.1).bind fun t960 => ((spec_l02Normal.f k t960).bind fun t963 => (some (t963, bt957.2.1, bt957.2.2))))) else (some (t951, bt954.2.1, bt954.2.2))))) else (none)) else (none)) else (none)) else (none)))) = some (r1, r2, r3) := zy H hy921
 have Ny921 := aM hy921
 clear hy921
 obtain ⟨y924, hy924⟩ : ∃ y_ : List Int, y_ = (([4, 3] : List Int)) := ⟨_, rfl⟩
 replace H : ((some (([y921, y924, (([2, 5] : List Int)), (([5, 2] : List Int)), (([3, 3] : List Int)), (([6, 2] : List Int)), (([4, 2] : List Int))] : List (List Int)) : List (List Int))).bind fun y942 => ((spec_l01Next.f s0_0 s0_1 s0_2 7).bind fun bt945 => (if 0 ≤ bt945.1 then (if bt945.1 < (y942.length : Int) then (if 0 < ((rd_L6 y942 bt945.1).length : Int) then (if 1 < ((rd_L6 y942 bt945.1).length : Int) then ((spec_l10Rectangle.f k (rd (rd_L6 y942 bt945.1) 0) (rd (rd_L6 y942 bt945.1) 1)).bind fun t951 => ((spec_l01Next.f s0_0 bt945.2.1 bt945.2.2 3).bind fun bt954 => (if bt954.1 = 0 then ((spec_l01Next.f s0_0 bt954.2.1 bt954.2.2 (t951.length : Int)).bind fun bt957 => ((spec_l05Without.f t951 bt957.1).bind fun t960 => ((spec_l02Normal.f k t960).bind fun t963 => (some (t963, bt957.2.1, bt957.2.2))))) else (some (t951, bt954.2.1, bt954.2.2))))) else (none)) else (none)) else (none)) else (none)))) = some (r1, r2, r3) := zy H hy924
 have Ny924 := aM hy924
 clear hy924
 obtain ⟨y927, hy927⟩ : ∃ y_ : List Int, y_ = (([2, 5] : List Int)) := ⟨_, rfl⟩
 replace H : ((some (([y921, y924, y927, (([5, 2] : List Int)), (([3, 3] : List Int)), (([6, 2] : List Int)), (([4, 2] : List Int))] : List (List Int)) : List (List Int))).bind fun y942 => ((spec_l01Next.f s0_0 s0_1 s0_2 7).bind fun bt945 => (if 0 ≤ bt945.1 then (if bt945.1 < (y942.length : Int) then (if 0 < ((rd_L6 y942 bt945.1).length : Int) then (if 1 < ((rd_L6 y942 bt945.1).length : Int) then ((spec_l10Rectangle.f k (rd (rd_L6 y942 bt945.1) 0) (rd (rd_L6 y942 bt945.1) 1)).bind fun t951 => ((spec_l01Next.f s0_0 bt945.2.1 bt945.2.2 3).bind fun bt954 => (if bt954.1 = 0 then ((spec_l01Next.f s0_0 bt954.2.1 bt954.2.2 (t951.length : Int)).bind fun bt957 => ((spec_l05Without.f t951 bt957.1).bind fun t960 => ((spec_l02Normal.f k t960).bind fun t963 => (some (t963, bt957.2.1, bt957.2.2))))) else (some (t951, bt954.2.1, bt954.2.2))))) else (none)) else (none)) else (none)) else (none)))) = some (r1, r2, r3) := zy H hy927
 have Ny927 := aM hy927
 clear hy927
 obtain ⟨y930, hy930⟩ : ∃ y_ : List Int, y_ = (([5, 2] : List Int)) := ⟨_, rfl⟩
 replace H : ((some (([y921, y924, y927, y930, (([3, 3] : List Int)), (([6, 2] : List Int)), (([4, 2] : List Int))] : List (List Int)) : List (List Int))).bind fun y942 => ((spec_l01Next.f s0_0 s0_1 s0_2 7).bind fun bt945 => (if 0 ≤ bt945.1 then (if bt945.1 < (y942.length : Int) then (if 0 < ((rd_L6 y942 bt945.1).length : Int) then (if 1 < ((rd_L6 y942 bt945.1).length : Int) then ((spec_l10Rectangle.f k (rd (rd_L6 y942 bt945.1) 0) (rd (rd_L6 y942 bt945.1) 1)).bind fun t951 => ((spec_l01Next.f s0_0 bt945.2.1 bt945.2.2 3).bind fun bt954 => (if bt954.1 = 0 then ((spec_l01Next.f s0_0 bt954.2.1 bt954.2.2 (t951.length : Int)).bind fun bt957 => ((spec_l05Without.f t951 bt957.1).bind fun t960 => ((spec_l02Normal.f k t960).bind fun t963 => (some (t963, bt957.2.1, bt957.2.2))))) else (some (t951, bt954.2.1, bt954.2.2))))) else (none)) else (none)) else (none)) else (none)))) = some (r1, r2, r3) := zy H hy930
 have Ny930 := aM hy930
 clear hy930
 obtain ⟨y933, hy933⟩ : ∃ y_ : List Int, y_ = (([3, 3] : List Int)) := ⟨_, rfl⟩
 replace H : ((some (([y921, y924, y927, y930, y933, (([6, 2] : List Int)), (([4, 2] : List Int))] : List (List Int)) : List (List Int))).bind fun y942 => ((spec_l01Next.f s0_0 s0_1 s0_2 7).bind fun bt945 => (if 0 ≤ bt945.1 then (if bt945.1 < (y942.length : Int) then (if 0 < ((rd_L6 y942 bt945.1).length : Int) then (if 1 < ((rd_L6 y942 bt945.1).length : Int) then ((spec_l10Rectangle.f k (rd (rd_L6 y942 bt945.1) 0) (rd (rd_L6 y942 bt945.1) 1)).bind fun t951 => ((spec_l01Next.f s0_0 bt945.2.1 bt945.2.2 3).bind fun bt954 => (if bt954.1 = 0 then ((spec_l01Next.f s0_0 bt954.2.1 bt954.2.2 (t951.length : Int)).bind fun bt957 => ((spec_l05Without.f t951 bt957.1).bind fun t960 => ((spec_l02Normal.f k t960).bind fun t963 => (some (t963, bt957.2.1, bt957.2.2))))) else (some (t951, bt954.2.1, bt954.2.2))))) else (none)) else (none)) else (none)) else (none)))) = some (r1, r2, r3) := zy H hy933
 have Ny933 := aM hy933
 clear hy933
 obtain ⟨y936, hy936⟩ : ∃ y_ : List Int, y_ = (([6, 2] : List Int)) := ⟨_, rfl⟩
 replace H : ((some (([y921, y924, y927, y930, y933, y936, (([4, 2] : List Int))] : List (List Int)) : List (List Int))).bind fun y942 => ((spec_l01Next.f s0_0 s0_1 s0_2 7).bind fun bt945 => (if 0 ≤ bt945.1 then (if bt945.1 < (y942.length : Int) then (if 0 < ((rd_L6 y942 bt945.1).length : Int) then (if 1 < ((rd_L6 y942 bt945.1).length : Int) then ((spec_l10Rectangle.f k (rd (rd_L6 y942 bt945.1) 0) (rd (rd_L6 y942 bt945.1) 1)).bind fun t951 => ((spec_l01Next.f s0_0 bt945.2.1 bt945.2.2 3).bind fun bt954 => (if bt954.1 = 0 then ((spec_l01Next.f s0_0 bt954.2.1 bt954.2.2 (t951.length : Int)).bind fun bt957 => ((spec_l05Without.f t951 bt957.1).bind fun t960 => ((spec_l02Normal.f k t960).bind fun t963 => (some (t963, bt957.2.1, bt957.2.2))))) else (some (t951, bt954.2.1, bt954.2.2))))) else (none)) else (none)) else (none)) else (none)))) = some (r1, r2, r3) := zy H hy936
 have Ny936 := aM hy936
 clear hy936
 obtain ⟨y939, hy939⟩ : ∃ y_ : List Int, y_ = (([4, 2] : List Int)) := ⟨_, rfl⟩
 replace H : ((some (([y921, y924, y927, y930, y933, y936, y939] : List (List Int)) : List (List Int))).bind fun y942 => ((spec_l01Next.f s0_0 s0_1 s0_2 7).bind fun bt945 => (if 0 ≤ bt945.1 then (if bt945.1 < (y942.length : Int) then (if 0 < ((rd_L6 y942 bt945.1).length : Int) then (if 1 < ((rd_L6 y942 bt945.1).length : Int) then ((spec_l10Rectangle.f k (rd (rd_L6 y942 bt945.1) 0) (rd (rd_L6 y942 bt945.1) 1)).bind fun t951 => ((spec_l01Next.f s0_0 bt945.2.1 bt945.2.2 3).bind fun bt954 => (if bt954.1 = 0 then ((spec_l01Next.f s0_0 bt954.2.1 bt954.2.2 (t951.length : Int)).bind fun bt957 => ((spec_l05Without.f t951 bt957.1).bind fun t960 => ((spec_l02Normal.f k t960).bind fun t963 => (some (t963, bt957.2.1, bt957.2.2))))) else (some (t951, bt954.2.1, bt954.2.2))))) else (none)) else (none)) else (none)) else (none)))) = some (r1, r2, r3) := zy H hy939
 have Ny939 := aM hy939
 clear hy939
 obtain ⟨y942, hy942⟩ : ∃ y_ : List (List Int), y_ = (([y921, y924, y927, y930, y933, y936, y939] : List (List Int))) := ⟨_, rfl⟩
 replace H : ((spec_l01Next.f s0_0 s0_1 s0_2 7).bind fun bt945 => (if 0 ≤ bt945.1 then (if bt945.1 < (y942.length : Int) then (if 0 < ((rd_L6 y942 bt945.1).length : Int) then (if 1 < ((rd_L6 y942 bt945.1).length : Int) then ((spec_l10Rectangle.f k (rd (rd_L6 y942 bt945.1) 0) (rd (rd_L6 y942 bt945.1) 1)).bind fun t951 => ((spec_l01Next.f s0_0 bt945.2.1 bt945.2.2 3).bind fun bt954 => (if bt954.1 = 0 then ((spec_l01Next.f s0_0 bt954.2.1 bt954.2.2 (t951.length : Int)).bind fun bt957 => ((spec_l05Without.f t951 bt957.1).bind fun t960 => ((spec_l02Normal.f k t960).bind fun t963 => (some (t963, bt957.2.1, bt957.2.2))))) else (some (t951, bt954.2.1, bt954.2.2))))) else (none)) else (none)) else (none)) else (none))) = some (r1, r2, r3) := zy H hy942
 have Ny942 := aM hy942
 clear hy942
 replace H := Option.bind_eq_some_iff.mp H
 obtain ⟨⟨t945, t946, t947⟩, A20, H⟩ := H
 replace H : (if 0 ≤ t945 then (if t945 < (y942.length : Int) then (if 0 < ((rd_L6 y942 t945).length : Int) then (if 1 < ((rd_L6 y942 t945).length : Int) then ((spec_l10Rectangle.f k (rd (rd_L6 y942 t945) 0) (rd (rd_L6 y942 t945) 1)).bind fun t951 => ((spec_l01Next.f s0_0 t946 t947 3).bind fun bt954 => (if bt954.1 = 0 then ((spec_l01Next.f s0_0 bt954.2.1 bt954.2.2 (t951.length : Int)).bind fun bt957 => ((spec_l05Without.f t951 bt957.1).bind fun t960 => ((spec_l02Normal.f k t960).bind fun t963 => (some (t963, bt957.2.1, bt957.2.2))))) else (some (t951, bt954.2.1, bt954.2.2))))) else (none)) else (none)) else (none)) else (none)) = some (r1, r2, r3) := H
 have A2 := aM A20
 clear A20
 by_cases c3 : 0 ≤ t945
 rotate_left
 ·rw [if_neg c3] at H
  exact absurd H (by simp)
 rw [if_pos c3] at H
 have c3b0 : decide (0 ≤ t945) = true := decide_eq_true c3
 clear c3
 by_cases c4 : t945 < (y942.length : Int)
 rotate_left
 ·rw [if_neg c4] at H
  exact absurd H (by simp)
 rw [if_pos c4] at H
 have c4b0 : decide (t945 < (y942.length : Int)) = true := decide_eq_true c4
 clear c4
 by_cases c5 : 0 < ((rd_L6 y942 t945).length : Int)
 rotate_left
 ·rw [if_neg c5] at H
  exact absurd H (by simp)
 rw [if_pos c5] at H
 have c5b0 : decide (0 < ((rd_L6 y942 t945).length : Int)) = true := decide_eq_true c5
 have c5b1 : decide (0 < (rd_L6 y942 t945).length) = true := decide_eq_true (by omega)
 clear c5
 by_cases c6 : 1 < ((rd_L6 y942 t945).length : Int)
 rotate_left
 ·rw [if_neg c6] at H
  exact absurd H (by simp)
 rw [if_pos c6] at H
 have c6b0 : decide (1 < ((rd_L6 y942 t945).length : Int)) = true := decide_eq_true c6
 have c6b1 : decide (1 < (rd_L6 y942 t945).length) = true := decide_eq_true (by omega)
 clear c6
 replace H := Option.bind_eq_some_iff.mp H
 obtain ⟨t951, A70, H⟩ := H
 replace H : ((spec_l01Next.f s0_0 t946 t947 3).bind fun bt954 => (if bt954.1 = 0 then ((spec_l01Next.f s0_0 bt954.2.1 bt954.2.2 (t951.length : Int)).bind fun bt957 => ((spec_l05Without.f t951 bt957.1).bind fun t960 => ((spec_l02Normal.f k t960).bind fun t963 => (some (t963, bt957.2.1, bt957.2.2))))) else (some (t951, bt954.2.1, bt954.2.2)))) = some (r1, r2, r3) := H
 have A7 := aM A70
 clear A70
 replace H := Option.bind_eq_some_iff.mp H
 obtain ⟨⟨t954, t955, t956⟩, A80, H⟩ := H
 replace H : (if t954 = 0 then ((spec_l01Next.f s0_0 t955 t956 (t951.length : Int)).bind fun bt957 => ((spec_l05Without.f t951 bt957.1).bind fun t960 => ((spec_l02Normal.f k t960).bind fun t963 => (some (t963, bt957.2.1, bt957.2.2))))) else (some (t951, t955, t956))) = some (r1, r2, r3) := H
 have A8 := aM A80
 clear A80
 by_cases c9 : t954 = 0
 rotate_left
 ·rw [if_neg c9] at H
  have c9b0 : (t954 == 0) = false := beq_eq_false_iff_ne.mpr c9
  have c9b1 : (t954 != 0) = true := bne_iff_ne.mpr c9
  simp only [Option.some.injEq, Prod.mk.injEq] at H
  obtain ⟨rfl, rfl, rfl⟩ := H
  go_enter Try.func119, Try.ntmps119
  try go_wp2_with (first | ((with_reducible refine gate_dst (N := 7) rfl ?_); refine Kd.R_lit (Kd.int .i64) _ 2 ?hg (N := 7) ?hd (xs := ([3, 4] : List Int)) (inner := [.int .i64 3, .int .i64 4]) (ok := fun _ => True) (okp := fun _ => True) ?hr ?hp (fun _ hk => hk) trivial (Below.refl _ _) (Nat.le_refl _) (by simp) ?_; (case hd => rfl); (case hg => rfl); (case hr => first | (go_simp; done) | (go_simp; rfl)); (case hp => exact (Reps.one (show Kd.M (Kd.int .i64) _ _ _ 3 [.int .i64 3] from rfl) (Reps.one (show Kd.M (Kd.int .i64) _ _ _ 4 [.int .i64 4] from rfl) (Reps.none _ _)))); intro v922 w46 ho47 hb hg_ hnew_; clear hg_ hnew_; (first | rw [← Ny921.out] at ho47 | (simp only [Int.reduceToNat] at ho47; rw [← Ny921.out] at ho47)); have n0_ := aM (Kd.R_lower ho47 (keep_size (w := w) (g := g) (row := none) (zK HK.out))); have n1_ := aM (IsS98.below (zI98 HI0.out) hb); have n2_ := aM (KeepBut.trans (zK HK.out) (KeepBut.of_below hb g none) (.inl rfl)); have n3_ := aM (below_step (zs (IsS98.ge HI0.out)) hb); clear HI0 HK HB; have HO923 := n0_; have HI0 := n1_; have HK := n2_; have HB := n3_; clear n0_ n1_ n2_ n3_; clear hb ho47) | ((with_reducible refine gate_dst (N := 8) rfl ?_); refine Kd.R_lit (Kd.int .i64) _ 2 ?hg (N := 8) ?hd (xs := ([4, 3] : List Int)) (inner := [.int .i64 4, .int .i64 3]) (ok := fun _ => True) (okp := fun _ => True) ?hr ?hp (fun _ hk => hk) trivial (Below.refl _ _) (Nat.le_refl _) (by simp) ?_; (case hd => rfl); (case hg => rfl); (case hr => first | (go_simp; done) | (go_simp; rfl)); (case hp => exact (Reps.one (show Kd.M (Kd.int .i64) _ _ _ 4 [.int .i64 4] from rfl) (Reps.one (show Kd.M (Kd.int .i64) _ _ _ 3 [.int .i64 3] from rfl) (Reps.none _ _)))); intro v925 w48 ho49 hb hg_ hnew_; clear hg_ hnew_; (first | rw [← Ny924.out] at ho49 | (simp only [Int.reduceToNat] at ho49; rw [← Ny924.out] at ho49)); have n0_ := aM (Kd.R_elder' (mR_ HO923.out) (Kd.R_base ho49) hb); have n1_ := aM (Kd.R_lower (Kd.R_new' ho49 (Kd.R_lt (mR_ HO923.out))) (keep_size (w := w) (g := g) (row := none) (zK HK.out))); have n2_ := aM (IsS98.below (zI98 HI0.out) hb); have n3_ := aM (KeepBut.trans (zK HK.out) (KeepBut.of_below hb g none) (.inl rfl)); have n4_ := aM (below_step (zs (IsS98.ge HI0.out)) hb); clear HO923 HI0 HK HB; have HO923 := n0_; have HO926 := n1_; have HI0 := n2_; have HK := n3_; have HB := n4_; clear n0_ n1_ n2_ n3_ n4_; clear hb ho49) | ((with_reducible refine gate_dst (N := 9) rfl ?_); refine Kd.R_lit (Kd.int .i64) _ 2 ?hg (N := 9) ?hd (xs := ([2, 5] : List Int)) (inner := [.int .i64 2, .int .i64 5]) (ok := fun _ => True) (okp := fun _ => True) ?hr ?hp (fun _ hk => hk) trivial (Below.refl _ _) (Nat.le_refl _) (by simp) ?_; (case hd => rfl); (case hg => rfl); (case hr => first | (go_simp; done) | (go_simp; rfl)); (case hp => exact (Reps.one (show Kd.M (Kd.int .i64) _ _ _ 2 [.int .i64 2] from rfl) (Reps.one (show Kd.M (Kd.int .i64) _ _ _ 5 [.int .i64 5] from rfl) (Reps.none _ _)))); intro v928 w50 ho51 hb hg_ hnew_; clear hg_ hnew_; (first | rw [← Ny927.out] at ho51 | (simp only [Int.reduceToNat] at ho51; rw [← Ny927.out] at ho51)); have n0_ := aM (Kd.R_elder' (mR_ HO923.out) (Kd.R_base ho51) hb); have n1_ := aM (Kd.R_elder' (mR_ HO926.out) (Kd.R_base ho51) hb); have n2_ := aM (Kd.R_lower (Kd.R_new' (Kd.R_new' ho51 (Kd.R_lt (mR_ HO923.out))) (Kd.R_lt (mR_ HO926.out))) (keep_size (w := w) (g := g) (row := none) (zK HK.out))); have n3_ := aM (IsS98.below (zI98 HI0.out) hb); have n4_ := aM (KeepBut.trans (zK HK.out) (KeepBut.of_below hb g none) (.inl rfl)); have n5_ := aM (below_step (zs (IsS98.ge HI0.out)) hb); clear HO923 HO926 HI0 HK HB; have HO923 := n0_; have HO926 := n1_; have HO929 := n2_; have HI0 := n3_; have HK := n4_; have HB := n5_; clear n0_ n1_ n2_ n3_ n4_ n5_; clear hb ho51) | ((with_reducible refine gate_dst (N := 10) rfl ?_); refine Kd.R_lit (Kd.int .i64) _ 2 ?hg (N := 10) ?hd (xs := ([5, 2] : List Int)) (inner := [.int .i64 5, .int .i64 2]) (ok := fun _ => True) (okp := fun _ => True) ?hr ?hp (fun _ hk => hk) trivial (Below.refl _ _) (Nat.le_refl _) (by simp) ?_; (case hd => rfl); (case hg => rfl); (case hr => first | (go_simp; done) | (go_simp; rfl)); (case hp => exact (Reps.one (show Kd.M (Kd.int .i64) _ _ _ 5 [.int .i64 5] from rfl) (Reps.one (show Kd.M (Kd.int .i64) _ _ _ 2 [.int .i64 2] from rfl) (Reps.none _ _)))); intro v931 w52 ho53 hb hg_ hnew_; clear hg_ hnew_; (first | rw [← Ny930.out] at ho53 | (simp only [Int.reduceToNat] at ho53; rw [← Ny930.out] at ho53)); have n0_ := aM (Kd.R_elder' (mR_ HO923.out) (Kd.R_base ho53) hb); have n1_ := aM (Kd.R_elder' (mR_ HO926.out) (Kd.R_base ho53) hb); have n2_ := aM (Kd.R_elder' (mR_ HO929.out) (Kd.R_base ho53) hb); have n3_ := aM (Kd.R_lower (Kd.R_new' (Kd.R_new' (Kd.R_new' ho53 (Kd.R_lt (mR_ HO923.out))) (Kd.R_lt (mR_ HO926.out))) (Kd.R_lt (mR_ HO929.out))) (keep_size (w := w) (g := g) (row := none) (zK HK.out))); have n4_ := aM (IsS98.below (zI98 HI0.out) hb); have n5_ := aM (KeepBut.trans (zK HK.out) (KeepBut.of_below hb g none) (.inl rfl)); have n6_ := aM (below_step (zs (IsS98.ge HI0.out)) hb); clear HO923 HO926 HO929 HI0 HK HB; have HO923 := n0_; have HO926 := n1_; have HO929 := n2_; have HO932 := n3_; have HI0 := n4_; have HK := n5_; have HB := n6_; clear n0_ n1_ n2_ n3_ n4_ n5_ n6_; clear hb ho53) | ((with_reducible refine gate_dst (N := 11) rfl ?_); refine Kd.R_lit (Kd.int .i64) _ 2 ?hg (N := 11) ?hd (xs := ([3, 3] : List Int)) (inner := [.int .i64 3, .int .i64 3]) (ok := fun _ => True) (okp := fun _ => True) ?hr ?hp (fun _ hk => hk) trivial (Below.refl _ _) (Nat.le_refl _) (by simp) ?_; (case hd => rfl); (case hg => rfl); (case hr => first | (go_simp; done) | (go_simp; rfl)); (case hp => exact (Reps.one (show Kd.M (Kd.int .i64) _ _ _ 3 [.int .i64 3] from rfl) (Reps.one (show Kd.M (Kd.int .i64) _ _ _ 3 [.int .i64 3] from rfl) (Reps.none _ _)))); intro v934 w54 ho55 hb hg_ hnew_; clear hg_ hnew_; (first | rw [← Ny933.out] at ho55 | (simp only [Int.reduceToNat] at ho55; rw [← Ny933.out] at ho55)); have n0_ := aM (Kd.R_elder' (mR_ HO923.out) (Kd.R_base ho55) hb); have n1_ := aM (Kd.R_elder' (mR_ HO926.out) (Kd.R_base ho55) hb); have n2_ := aM (Kd.R_elder' (mR_ HO929.out) (Kd.R_base ho55) hb); have n3_ := aM (Kd.R_elder' (mR_ HO932.out) (Kd.R_base ho55) hb); have n4_ := aM (Kd.R_lower (Kd.R_new' (Kd.R_new' (Kd.R_new' (Kd.R_new' ho55 (Kd.R_lt (mR_ HO923.out))) (Kd.R_lt (mR_ HO926.out))) (Kd.R_lt (mR_ HO929.out))) (Kd.R_lt (mR_ HO932.out))) (keep_size (w := w) (g := g) (row := none) (zK HK.out))); have n5_ := aM (IsS98.below (zI98 HI0.out) hb); have n6_ := aM (KeepBut.trans (zK HK.out) (KeepBut.of_below hb g none) (.inl rfl)); have n7_ := aM (below_step (zs (IsS98.ge HI0.out)) hb); clear HO923 HO926 HO929 HO932 HI0 HK HB; have HO923 := n0_; have HO926 := n1_; have HO929 := n2_; have HO932 := n3_; have HO935 := n4_; have HI0 := n5_; have HK := n6_; have HB := n7_; clear n0_ n1_ n2_ n3_ n4_ n5_ n6_ n7_; clear hb ho55) | ((with_reducible refine gate_dst (N := 12) rfl ?_); refine Kd.R_lit (Kd.int .i64) _ 2 ?hg (N := 12) ?hd (xs := ([6, 2] : List Int)) (inner := [.int .i64 6, .int .i64 2]) (ok := fun _ => True) (okp := fun _ => True) ?hr ?hp (fun _ hk => hk) trivial (Below.refl _ _) (Nat.le_refl _) (by simp) ?_; (case hd => rfl); (case hg => rfl); (case hr => first | (go_simp; done) | (go_simp; rfl)); (case hp => exact (Reps.one (show Kd.M (Kd.int .i64) _ _ _ 6 [.int .i64 6] from rfl) (Reps.one (show Kd.M (Kd.int .i64) _ _ _ 2 [.int .i64 2] from rfl) (Reps.none _ _)))); intro v937 w56 ho57 hb hg_ hnew_; clear hg_ hnew_; (first | rw [← Ny936.out] at ho57 | (simp only [Int.reduceToNat] at ho57; rw [← Ny936.out] at ho57)); have n0_ := aM (Kd.R_elder' (mR_ HO923.out) (Kd.R_base ho57) hb); have n1_ := aM (Kd.R_elder' (mR_ HO926.out) (Kd.R_base ho57) hb); have n2_ := aM (Kd.R_elder' (mR_ HO929.out) (Kd.R_base ho57) hb); have n3_ := aM (Kd.R_elder' (mR_ HO932.out) (Kd.R_base ho57) hb); have n4_ := aM (Kd.R_elder' (mR_ HO935.out) (Kd.R_base ho57) hb); have n5_ := aM (Kd.R_lower (Kd.R_new' (Kd.R_new' (Kd.R_new' (Kd.R_new' (Kd.R_new' ho57 (Kd.R_lt (mR_ HO923.out))) (Kd.R_lt (mR_ HO926.out))) (Kd.R_lt (mR_ HO929.out))) (Kd.R_lt (mR_ HO932.out))) (Kd.R_lt (mR_ HO935.out))) (keep_size (w := w) (g := g) (row := none) (zK HK.out))); have n6_ := aM (IsS98.below (zI98 HI0.out) hb); have n7_ := aM (KeepBut.trans (zK HK.out) (KeepBut.of_below hb g none) (.inl rfl)); have n8_ := aM (below_step (zs (IsS98.ge HI0.out)) hb); clear HO923 HO926 HO929 HO932 HO935 HI0 HK HB; have HO923 := n0_; have HO926 := n1_; have HO929 := n2_; have HO932 := n3_; have HO935 := n4_; have HO938 := n5_; have HI0 := n6_; have HK := n7_; have HB := n8_; clear n0_ n1_ n2_ n3_ n4_ n5_ n6_ n7_ n8_; clear hb ho57) | ((with_reducible refine gate_dst (N := 13) rfl ?_); refine Kd.R_lit (Kd.int .i64) _ 2 ?hg (N := 13) ?hd (xs := ([4, 2] : List Int)) (inner := [.int .i64 4, .int .i64 2]) (ok := fun _ => True) (okp := fun _ => True) ?hr ?hp (fun _ hk => hk) trivial (Below.refl _ _) (Nat.le_refl _) (by simp) ?_; (case hd => rfl); (case hg => rfl); (case hr => first | (go_simp; done) | (go_simp; rfl)); (case hp => exact (Reps.one (show Kd.M (Kd.int .i64) _ _ _ 4 [.int .i64 4] from rfl) (Reps.one (show Kd.M (Kd.int .i64) _ _ _ 2 [.int .i64 2] from rfl) (Reps.none _ _)))); intro v940 w58 ho59 hb hg_ hnew_; clear hg_ hnew_; (first | rw [← Ny939.out] at ho59 | (simp only [Int.reduceToNat] at ho59; rw [← Ny939.out] at ho59)); have n0_ := aM (Kd.R_elder' (mR_ HO923.out) (Kd.R_base ho59) hb); have n1_ := aM (Kd.R_elder' (mR_ HO926.out) (Kd.R_base ho59) hb); have n2_ := aM (Kd.R_elder' (mR_ HO929.out) (Kd.R_base ho59) hb); have n3_ := aM (Kd.R_elder' (mR_ HO932.out) (Kd.R_base ho59) hb); have n4_ := aM (Kd.R_elder' (mR_ HO935.out) (Kd.R_base ho59) hb); have n5_ := aM (Kd.R_elder' (mR_ HO938.out) (Kd.R_base ho59) hb); have n6_ := aM (Kd.R_lower (Kd.R_new' (Kd.R_new' (Kd.R_new' (Kd.R_new' (Kd.R_new' (Kd.R_new' ho59 (Kd.R_lt (mR_ HO923.out))) (Kd.R_lt (mR_ HO926.out))) (Kd.R_lt (mR_ HO929.out))) (Kd.R_lt (mR_ HO932.out))) (Kd.R_lt (mR_ HO935.out))) (Kd.R_lt (mR_ HO938.out))) (keep_size (w := w) (g := g) (row := none) (zK HK.out))); have n7_ := aM (IsS98.below (zI98 HI0.out) hb); have n8_ := aM (KeepBut.trans (zK HK.out) (KeepBut.of_below hb g none) (.inl rfl)); have n9_ := aM (below_step (zs (IsS98.ge HI0.out)) hb); clear HO923 HO926 HO929 HO932 HO935 HO938 HI0 HK HB; have HO923 := n0_; have HO926 := n1_; have HO929 := n2_; have HO932 := n3_; have HO935 := n4_; have HO938 := n5_; have HO941 := n6_; have HI0 := n7_; have HK := n8_; have HB := n9_; clear n0_ n1_ n2_ n3_ n4_ n5_ n6_ n7_ n8_ n9_ hb ho59; obtain ⟨Ao60, co60, eo60⟩ := Kd.R_slice HO923.out; subst eo60; obtain ⟨Ao61, co61, eo61⟩ := Kd.R_slice HO926.out; subst eo61; obtain ⟨Ao62, co62, eo62⟩ := Kd.R_slice HO929.out; subst eo62; obtain ⟨Ao63, co63, eo63⟩ := Kd.R_slice HO932.out; subst eo63; obtain ⟨Ao64, co64, eo64⟩ := Kd.R_slice HO935.out; subst eo64; obtain ⟨Ao65, co65, eo65⟩ := Kd.R_slice HO938.out; subst eo65; obtain ⟨Ao66, co66, eo66⟩ := Kd.R_slice HO941.out; subst eo66) | ((with_reducible refine gate_dst (N := 14) rfl ?_); refine Kd.N_lit (Kd.slice 2 (Kd.int .i64)) _ 41 ?hg (N' := 14) ?hd (xs := ([y921, y924, y927, y930, y933, y936, y939] : List (List Int))) (inner := [.slice Ao60 y921.length co60, .slice Ao61 y924.length co61, .slice Ao62 y927.length co62, .slice Ao63 y930.length co63, .slice Ao64 y933.length co64, .slice Ao65 y936.length co65, .slice Ao66 y939.length co66]) (ok := (fun k_ => k_ ≠ g)) (okp := (fun k_ => k_ ≠ g)) ?hr ?hp (fun _ hk => hk) ((show ∀ k_, w58.heap.size ≤ k_ → (fun k_ => k_ ≠ g) k_ from fun k_ hk => IsS98.fresh (zI98 HI0.out) k_ hk) _ (Nat.le_refl _)) (Below.refl _ _) (Nat.le_refl _) (by simp) ?_; (case hd => rfl); (case hg => rfl); (case hr => first | (go_simp; done) | (go_simp; rfl)); (case hp => exact (Reps.one (show Kd.FK (Kd.slice 2 (Kd.int .i64)) _ _ y921 [.slice Ao60 y921.length co60] from (Kd.FK_slice_mk (Kd.R_reads' (Kd.R_mono (ok' := (fun k_ => k_ ≠ g)) (IsS98.apart HI0.out (HO923.out) (by decide)) (fun k_ hk => hk.2))).2.1 (Kd.R_F (Kd.R_mono (ok' := (fun k_ => k_ ≠ g)) (IsS98.apart HI0.out (HO923.out) (by decide)) (fun k_ hk => hk.2))))) (Reps.one (show Kd.FK (Kd.slice 2 (Kd.int .i64)) _ _ y924 [.slice Ao61 y924.length co61] from (Kd.FK_slice_mk (Kd.R_reads' (Kd.R_mono (ok' := (fun k_ => k_ ≠ g)) (IsS98.apart HI0.out (HO926.out) (by decide)) (fun k_ hk => hk.2))).2.1 (Kd.R_F (Kd.R_mono (ok' := (fun k_ => k_ ≠ g)) (IsS98.apart HI0.out (HO926.out) (by decide)) (fun k_ hk => hk.2))))) (Reps.one (show Kd.FK (Kd.slice 2 (Kd.int .i64)) _ _ y927 [.slice Ao62 y927.length co62] from (Kd.FK_slice_mk (Kd.R_reads' (Kd.R_mono (ok' := (fun k_ => k_ ≠ g)) (IsS98.apart HI0.out (HO929.out) (by decide)) (fun k_ hk => hk.2))).2.1 (Kd.R_F (Kd.R_mono (ok' := (fun k_ => k_ ≠ g)) (IsS98.apart HI0.out (HO929.out) (by decide)) (fun k_ hk => hk.2))))) (Reps.one (show Kd.FK (Kd.slice 2 (Kd.int .i64)) _ _ y930 [.slice Ao63 y930.length co63] from (Kd.FK_slice_mk (Kd.R_reads' (Kd.R_mono (ok' := (fun k_ => k_ ≠ g)) (IsS98.apart HI0.out (HO932.out) (by decide)) (fun k_ hk => hk.2))).2.1 (Kd.R_F (Kd.R_mono (ok' := (fun k_ => k_ ≠ g)) (IsS98.apart HI0.out (HO932.out) (by decide)) (fun k_ hk => hk.2))))) (Reps.one (show Kd.FK (Kd.slice 2 (Kd.int .i64)) _ _ y933 [.slice Ao64 y933.length co64] from (Kd.FK_slice_mk (Kd.R_reads' (Kd.R_mono (ok' := (fun k_ => k_ ≠ g)) (IsS98.apart HI0.out (HO935.out) (by decide)) (fun k_ hk => hk.2))).2.1 (Kd.R_F (Kd.R_mono (ok' := (fun k_ => k_ ≠ g)) (IsS98.apart HI0.out (HO935.out) (by decide)) (fun k_ hk => hk.2))))) (Reps.one (show Kd.FK (Kd.slice 2 (Kd.int .i64)) _ _ y936 [.slice Ao65 y936.length co65] from (Kd.FK_slice_mk (Kd.R_reads' (Kd.R_mono (ok' := (fun k_ => k_ ≠ g)) (IsS98.apart HI0.out (HO938.out) (by decide)) (fun k_ hk => hk.2))).2.1 (Kd.R_F (Kd.R_mono (ok' := (fun k_ => k_ ≠ g)) (IsS98.apart HI0.out (HO938.out) (by decide)) (fun k_ hk => hk.2))))) (Reps.one (show Kd.FK (Kd.slice 2 (Kd.int .i64)) _ _ y939 [.slice Ao66 y939.length co66] from (Kd.FK_slice_mk (Kd.R_reads' (Kd.R_mono (ok' := (fun k_ => k_ ≠ g)) (IsS98.apart HI0.out (HO941.out) (by decide)) (fun k_ hk => hk.2))).2.1 (Kd.R_F (Kd.R_mono (ok' := (fun k_ => k_ ≠ g)) (IsS98.apart HI0.out (HO941.out) (by decide)) (fun k_ hk => hk.2))))) (Reps.none _ _))))))))); intro v943 w67 ho68 hb hg_ hnew_; clear hg_ hnew_; (first | rw [← Ny942.out] at ho68 | (simp only [Int.reduceToNat] at ho68; rw [← Ny942.out] at ho68)); have n0_ := aM (Kd.N_lower ho68 (keep_size (w := w) (g := g) (row := none) (zK HK.out))); have n1_ := aM (IsS98.below (zI98 HI0.out) hb); have n2_ := aM (KeepBut.trans (zK HK.out) (KeepBut.of_below hb g none) (.inl rfl)); have n3_ := aM (below_step (zs (IsS98.ge HI0.out)) hb); clear HI0 HK HB HO923 HO926 HO929 HO932 HO935 HO938 HO941; have HO944 := n0_; have HI0 := n1_; have HK := n2_; have HB := n3_; clear n0_ n1_ n2_ n3_; clear hb ho68) | ((with_reducible refine gate_callee (f := 71) rfl ?_); refine goesL_ (some 17) rfl rfl Try.func71 (by kernel_rfl) rfl #[.pointer (some ⟨g, 0, none⟩), .int .i64 7] rfl zm ?_; (with_reducible refine (spec_l01Next.calls g s0_0 s0_1 s0_2 7 t945 t946 t947 w0 _ ?side1 ?side2 A2.out).mono ?_); (case side1 => exact zI98 HI0.out); (case side2 => exact zs (IsS98.ge HI0.out)); rintro e w69 ⟨rfl, hi, hb, hk⟩; refine ⟨_, rfl, ?_⟩; have n0_ := aM (Kd.N_mono (Kd.N_keep (Kd.N_mono (ok := fun k_ => k_ ≠ g) (mN_ HO944.out) (fun k_ hk_ => (⟨hk_, hk_⟩ : _ ∧ k_ ≠ g))) hk (fun _ h => h.2)) (fun _ h => h.1)); have n1_ := aM (KeepBut.trans (zK HK.out) hk (.inl rfl)); have n2_ := aM (hb); have n3_ := aM (hi); clear HO944 HK HB HI0; have HO944 := n0_; have HK := n1_; have HB := n2_; have HI0 := n3_; clear n0_ n1_ n2_ n3_; (try clear hb); (try clear hb2); (try clear hk); (try clear hi); obtain ⟨Ao70, co70, eo70⟩ := Kd.N_slice HO944.out; subst eo70; have p948 : 0 ≤ (t945 : Int) := of_decide_eq_true za; have q948 : t945 < (y942.length : Int) := of_decide_eq_true za; obtain ⟨ad948, A948_0, c948_0, e948, hx948_0, hl948_0, hi948_0⟩ := at_L6 (Kd.N_reads' HO944.out).2.2 t945 p948 q948; cases e948; obtain ⟨ce948, hce948, hMe948, hcc948⟩ := Kd.N_get HO944.out [] t945 p948 (by first | exact q948 | exact of_decide_eq_true za | (have e_ := (Kd.N_reads' HO944.out).1; omega)); obtain ⟨ua948_0, uc948_0, rfl, ul948_0, ge948_0⟩ := Kd.FK_slice_open hMe948; have hv948_0 := hcc948 0 _ rfl; rw [Nat.add_zero, show ((Kd.slice 2 (Kd.int .i64))).sz = 1 from rfl, Nat.mul_one] at hv948_0; replace hv948_0 := Option.some.inj (hv948_0.symm.trans hx948_0); injection hv948_0 with hva_ hvn_ hvc_; rw [hva_] at ge948_0; rw [hvc_] at ul948_0; have HL948_0 := aM (show Kd.V (Kd.int .i64) 2 _ w.heap.size _ _ (rd_L6 y942 t945) from Kd.V_mk ul948_0 ge948_0); clear hva_ hvn_ hvc_ ge948_0 ul948_0 hcc948 hce948; have HR948_0 := aM hi948_0; have HC948_0 := aM hl948_0; clear hi948_0 hl948_0; replace p948 := eq_true p948; replace q948 := eq_true q948))
  have n0_ := aM (Kd.N_drew HO944.out)
  have n1_ := aM (Kd.V_drew HL948_0.out)
  have n2_ := aM (Kd.C_drew HR948_0.out)
  have n3_ := aM (IsS98.drew HI0.out)
  have n4_ := aM (keep_drew HK.out)
  have n5_ := aM (below_drew1 HB.out)
  clear HO944
  clear HL948_0
  clear HR948_0
  clear HI0
  clear HK
  clear HB
  have HO944 := n0_
  have HL948_0 := n1_
  have HR948_0 := n2_
  have HI0 := n3_
  have HK := n4_
  have HB := n5_
  clear n0_ n1_ n2_ n3_ n4_ n5_
  have p949 : 0 ≤ (0 : Int) := (by omega)
  have q949 : 0 < ((rd_L6 y942 t945).length : Int) := of_decide_eq_true za
  obtain ⟨ad949, e949, hx949_0⟩ := Kd.at_int (mQ_ HR948_0.out) 0 p949 q949
  cases e949
  have qi949 : (0 < (rd_L6 y942 t945).length) = True := eq_true (by omega)
  (try rw [show ((0 : Int)).toNat = 0 from rfl] at hx949_0)
  (try rw [Addr.add_zero'] at hx949_0)
  replace p949 := eq_true p949
  replace q949 := eq_true q949
  have p950 : 0 ≤ (1 : Int) := (by omega)
  have q950 : 1 < ((rd_L6 y942 t945).length : Int) := of_decide_eq_true za
  obtain ⟨ad950, e950, hx950_0⟩ := Kd.at_int (mQ_ HR948_0.out) 1 p950 q950
  obtain rfl : ad949 = ad950 := (by injection e950)
  (try simp only [show (1 : Int).toNat = 1 from rfl, Nat.reduceMul, Nat.reduceEqDiff, Go.Addr.add, ↓reduceIte] at hx950_0)
  have qi950 : (1 < (rd_L6 y942 t945).length) = True := eq_true (by omega)
  (try rw [show ((1 : Int)).toNat = 1 from rfl] at hx950_0)
  replace p950 := eq_true p950
  replace q950 := eq_true q950
  refine start_ (n := 8) (S := fun w' => w'.cell? ad949 = some (.int .i64 (rd (rd_L6 y942 t945) 0)) ∧ w'.cell? ⟨ad949.block, ad949.off + 1, none⟩ = some (.int .i64 (rd (rd_L6 y942 t945) 1))) (ds := []) #[false, false, false, false, false, false, false, false] (by kernel_rfl) rfl rfl ⟨hx949_0, hx950_0⟩ (fun hHeld => ?_); refine with_tabW spec_l10DrawSmall.tab3 spec_l10DrawSmall.bits3 (fun HT_ HW_ => ?_)
  generalize w69.drew = w71 at HO944 HL948_0 HR948_0 HI0 HK HB hx949_0 hx950_0 hHeld ⊢
  refine zp 0 (some 20) ?_ #[true, false, false, false, false, false, false, false] rfl rfl (Or.inl ⟨by rfl, ?_⟩) ?_ ?_ ?_
  rotate_left
  ·intro w'
   go_simp
   with_reducible rfl
  rotate_left
  ·simp only [Act.put, xA, xB, xC, i64_w, i32_w]
   rfl
  refine zp 1 (some 21) ?_ #[true, true, false, false, false, false, false, false] rfl rfl (Or.inl ⟨by rfl, ?_⟩) ?_ ?_ ?_
  rotate_left
  ·intro w'
   go_simp
   with_reducible rfl
  rotate_left
  ·simp only [Act.put, xA, xB, xC, i64_w, i32_w]
   rfl
  refine zp 3 (some 23) ?_ #[true, true, false, true, false, false, false, false] rfl rfl (Or.inl ⟨by rfl, ?_⟩) ?_ ?_ ?_
  rotate_left
  ·intro w'
   go_simp
   with_reducible rfl
  rotate_left
  ·simp only [Act.put, xA, xB, xC, i64_w, i32_w]
   rfl
  refine zp 4 (some 24) ?_ #[true, true, false, true, true, false, false, false] rfl rfl (Or.inl ⟨by rfl, ?_⟩) ?_ ?_ ?_
  rotate_left
  ·intro w'
   go_simp
   with_reducible rfl
  rotate_left
  ·simp only [Act.put, xA, xB, xC, i64_w, i32_w]
   rfl
  refine zu 2 (some 22) ?_ #[true, true, true, true, true, false, false, false] rfl rfl (Or.inl ⟨by rfl, ?_⟩) hHeld ?_ ?_ ?_
  rotate_left
  ·rintro w' ⟨s0, s1⟩
   go_simp
   with_reducible rfl
  rotate_left
  ·simp only [Act.put, xA, xB, xC, i64_w, i32_w]
   rfl
  refine zu 5 (some 25) ?_ #[true, true, true, true, true, true, false, false] rfl rfl (Or.inl ⟨by rfl, ?_⟩) hHeld ?_ ?_ ?_
  rotate_left
  ·rintro w' ⟨s0, s1⟩
   go_simp
   with_reducible rfl
  rotate_left
  ·simp only [Act.put, xA, xB, xC, i64_w, i32_w]
   rfl
  refine one_ (i := 6) (N := some 26) #[true, true, true, true, true, true, true, false] rfl rfl (one_of HT_.out (by kernel_rfl)) (by decide) (fun K hK => ?_)
  refine goes_ Try.func117 (by kernel_rfl) rfl #[.int .i64 (rd (rd_L6 y942 t945) 0), .int .i64 (rd (rd_L6 y942 t945) 1)] (by rfl) rfl rfl zm ?_
  with_reducible refine (spec_l10Rectangle.calls k (rd (rd_L6 y942 t945) 0) (rd (rd_L6 y942 t945) 1) t951 _ A7.out).mono ?_
  rintro e w72 ⟨v952, rfl, ho0, hb⟩
  have HS0_ := zk hb (hHeld.1)
  have HS1_ := zk hb (hHeld.2)
  refine ⟨_, rfl, ?_⟩
  have n0_ := aM (Kd.N_elder' (mN_ HO944.out) (Kd.R_base ho0) hb)
  have n1_ := aM (Kd.V_elder' (mV_ HL948_0.out) (Kd.R_base ho0) hb)
  have n2_ := aM (Kd.R_lower ho0 (keep_size (w := w) (g := g) (row := none) (zK HK.out)))
  have n3_ := aM (IsS98.below (zI98 HI0.out) hb)
  have n4_ := aM (Kd.C_below (mQ_ HR948_0.out) hb)
  have n5_ := aM (KeepBut.trans (zK HK.out) (KeepBut.of_below hb g none) (.inl rfl))
  have n6_ := aM (below_step (zs (IsS98.ge HI0.out)) hb)
  clear HO944
  clear HL948_0
  clear HI0
  clear HR948_0
  clear HK
  clear HB
  have HO944 := n0_
  have HL948_0 := n1_
  have HO953 := n2_
  have HI0 := n3_
  have HR948_0 := n4_
  have HK := n5_
  have HB := n6_
  clear n0_ n1_ n2_ n3_ n4_ n5_ n6_
  (try clear hb)
  (try clear hb2)
  (try clear hk)
  (try clear hi)
  (try clear ho0)
  refine hK.out _ _ ⟨HS0_, HS1_⟩ (fun hHeld => ?_)
  clear hK K
  refine norm_ (a' := ?_) ?_ ?_
  rotate_left
  ·show Act.put _ (some 26) _ = _
   simp only [Act.put, xA, xB, xC, i64_w, i32_w]
   rfl
  refine zp 7 (some 5) ?_ #[true, true, true, true, true, true, true, true] rfl rfl (Or.inl ⟨by rfl, ?_⟩) ?_ ?_ ?_
  rotate_left
  ·intro w'
   go_simp
   with_reducible rfl
  rotate_left
  ·simp only [Act.put, xA, xB, xC, i64_w, i32_w]
   rfl
  refine done_ (done_of HT_.out (by kernel_rfl)) ?_
  try go_wp2_with (first | ((with_reducible refine gate_callee (f := 71) rfl ?_); refine goesL_ (some 28) rfl rfl Try.func71 (by kernel_rfl) rfl #[.pointer (some ⟨g, 0, none⟩), .int .i64 3] rfl zm ?_; (with_reducible refine (spec_l01Next.calls g s0_0 t946 t947 3 t954 t955 t956 w0 _ ?side1 ?side2 A8.out).mono ?_); (case side1 => exact zI98 HI0.out); (case side2 => exact zs (IsS98.ge HI0.out)); rintro e w73 ⟨rfl, hi, hb, hk⟩; refine ⟨_, rfl, ?_⟩; have n0_ := aM (Kd.N_mono (Kd.N_keep (Kd.N_mono (ok := fun k_ => (k_ ≠ g ∧ some k_ ≠ (v952 : Value).ownBlock)) (mN_ HO944.out) (fun k_ hk_ => (⟨hk_, hk_.1⟩ : _ ∧ k_ ≠ g))) hk (fun _ h => h.2)) (fun _ h => h.1)); have n1_ := aM (Kd.V_mono (Kd.V_keep (Kd.V_mono (ok := fun k_ => ((k_ ≠ g ∧ some k_ ≠ (.slice (some ad948) y942.length co70 : Value).ownBlock) ∧ some k_ ≠ (v952 : Value).ownBlock)) (mV_ HL948_0.out) (fun k_ hk_ => (⟨hk_, hk_.1.1⟩ : _ ∧ k_ ≠ g))) hk (fun _ h => h.2)) (fun _ h => h.1)); have n2_ := aM (Kd.R_mono (Kd.R_keep (IsS98.apart (show IsS98 w0 _ g s0_0 t946 t947 from zI98 HI0.out) (mR_ HO953.out) (by decide)) hk (fun _ h => h.2)) (fun _ h => h.1)); have n3_ := aM (KeepBut.trans (zK HK.out) hk (.inl rfl)); have n4_ := aM (hb); have n5_ := aM (hi); clear HO944 HL948_0 HO953 HK HB HI0; have HO944 := n0_; have HL948_0 := n1_; have HO953 := n2_; have HK := n3_; have HB := n4_; have HI0 := n5_; clear n0_ n1_ n2_ n3_ n4_ n5_; (try clear hb); (try clear hb2); (try clear hk); (try clear hi)))
  go_ret
  exact ⟨_, zw, mR_ HO953.out, zI98 HI0.out, zs (IsS98.ge HI0.out), zK HK.out⟩
 rw [if_pos c9] at H
 have c9b0 : (t954 == 0) = true := beq_iff_eq.mpr c9
 have c9b1 : (t954 != 0) = false := bne_eq_false_iff_eq.mpr c9
 clear c9
 replace H := Option.bind_eq_some_iff.mp H
 obtain ⟨⟨t957, t958, t959⟩, A100, H⟩ := H
 replace H : ((spec_l05Without.f t951 t957).bind fun t960 => ((spec_l02Normal.f k t960).bind fun t963 => (some (t963, t958, t959)))) = some (r1, r2, r3) := H
 have A10 := aM A100
 clear A100
 replace H := Option.bind_eq_some_iff.mp H
 obtain ⟨t960, A110, H⟩ := H
 replace H : ((spec_l02Normal.f k t960).bind fun t963 => (some (t963, t958, t959))) = some (r1, r2, r3) := H
 have A11 := aM A110
 clear A110
 replace H := Option.bind_eq_some_iff.mp H
 obtain ⟨t963, A120, H⟩ := H
 replace H : (some (t963, t958, t959)) = some (r1, r2, r3) := H
 have A12 := aM A120
 clear A120
 simp only [Option.some.injEq, Prod.mk.injEq] at H
 obtain ⟨rfl, rfl, rfl⟩ := H
 go_enter Try.func119, Try.ntmps119
 try go_wp2_with (first | ((with_reducible refine gate_dst (N := 7) rfl ?_); refine Kd.R_lit (Kd.int .i64) _ 2 ?hg (N := 7) ?hd (xs := ([3, 4] : List Int)) (inner := [.int .i64 3, .int .i64 4]) (ok := fun _ => True) (okp := fun _ => True) ?hr ?hp (fun _ hk => hk) trivial (Below.refl _ _) (Nat.le_refl _) (by simp) ?_; (case hd => rfl); (case hg => rfl); (case hr => first | (go_simp; done) | (go_simp; rfl)); (case hp => exact (Reps.one (show Kd.M (Kd.int .i64) _ _ _ 3 [.int .i64 3] from rfl) (Reps.one (show Kd.M (Kd.int .i64) _ _ _ 4 [.int .i64 4] from rfl) (Reps.none _ _)))); intro v922 w13 ho14 hb hg_ hnew_; clear hg_ hnew_; (first | rw [← Ny921.out] at ho14 | (simp only [Int.reduceToNat] at ho14; rw [← Ny921.out] at ho14)); have n0_ := aM (Kd.R_lower ho14 (keep_size (w := w) (g := g) (row := none) (zK HK.out))); have n1_ := aM (IsS98.below (zI98 HI0.out) hb); have n2_ := aM (KeepBut.trans (zK HK.out) (KeepBut.of_below hb g none) (.inl rfl)); have n3_ := aM (below_step (zs (IsS98.ge HI0.out)) hb); clear HI0 HK HB; have HO923 := n0_; have HI0 := n1_; have HK := n2_; have HB := n3_; clear n0_ n1_ n2_ n3_; clear hb ho14) | ((with_reducible refine gate_dst (N := 8) rfl ?_); refine Kd.R_lit (Kd.int .i64) _ 2 ?hg (N := 8) ?hd (xs := ([4, 3] : List Int)) (inner := [.int .i64 4, .int .i64 3]) (ok := fun _ => True) (okp := fun _ => True) ?hr ?hp (fun _ hk => hk) trivial (Below.refl _ _) (Nat.le_refl _) (by simp) ?_; (case hd => rfl); (case hg => rfl); (case hr => first | (go_simp; done) | (go_simp; rfl)); (case hp => exact (Reps.one (show Kd.M (Kd.int .i64) _ _ _ 4 [.int .i64 4] from rfl) (Reps.one (show Kd.M (Kd.int .i64) _ _ _ 3 [.int .i64 3] from rfl) (Reps.none _ _)))); intro v925 w15 ho16 hb hg_ hnew_; clear hg_ hnew_; (first | rw [← Ny924.out] at ho16 | (simp only [Int.reduceToNat] at ho16; rw [← Ny924.out] at ho16)); have n0_ := aM (Kd.R_elder' (mR_ HO923.out) (Kd.R_base ho16) hb); have n1_ := aM (Kd.R_lower (Kd.R_new' ho16 (Kd.R_lt (mR_ HO923.out))) (keep_size (w := w) (g := g) (row := none) (zK HK.out))); have n2_ := aM (IsS98.below (zI98 HI0.out) hb); have n3_ := aM (KeepBut.trans (zK HK.out) (KeepBut.of_below hb g none) (.inl rfl)); have n4_ := aM (below_step (zs (IsS98.ge HI0.out)) hb); clear HO923 HI0 HK HB; have HO923 := n0_; have HO926 := n1_; have HI0 := n2_; have HK := n3_; have HB := n4_; clear n0_ n1_ n2_ n3_ n4_; clear hb ho16) | ((with_reducible refine gate_dst (N := 9) rfl ?_); refine Kd.R_lit (Kd.int .i64) _ 2 ?hg (N := 9) ?hd (xs := ([2, 5] : List Int)) (inner := [.int .i64 2, .int .i64 5]) (ok := fun _ => True) (okp := fun _ => True) ?hr ?hp (fun _ hk => hk) trivial (Below.refl _ _) (Nat.le_refl _) (by simp) ?_; (case hd => rfl); (case hg => rfl); (case hr => first | (go_simp; done) | (go_simp; rfl)); (case hp => exact (Reps.one (show Kd.M (Kd.int .i64) _ _ _ 2 [.int .i64 2] from rfl) (Reps.one (show Kd.M (Kd.int .i64) _ _ _ 5 [.int .i64 5] from rfl) (Reps.none _ _)))); intro v928 w17 ho18 hb hg_ hnew_; clear hg_ hnew_; (first | rw [← Ny927.out] at ho18 | (simp only [Int.reduceToNat] at ho18; rw [← Ny927.out] at ho18)); have n0_ := aM (Kd.R_elder' (mR_ HO923.out) (Kd.R_base ho18) hb); have n1_ := aM (Kd.R_elder' (mR_ HO926.out) (Kd.R_base ho18) hb); have n2_ := aM (Kd.R_lower (Kd.R_new' (Kd.R_new' ho18 (Kd.R_lt (mR_ HO923.out))) (Kd.R_lt (mR_ HO926.out))) (keep_size (w := w) (g := g) (row := none) (zK HK.out))); have n3_ := aM (IsS98.below (zI98 HI0.out) hb); have n4_ := aM (KeepBut.trans (zK HK.out) (KeepBut.of_below hb g none) (.inl rfl)); have n5_ := aM (below_step (zs (IsS98.ge HI0.out)) hb); clear HO923 HO926 HI0 HK HB; have HO923 := n0_; have HO926 := n1_; have HO929 := n2_; have HI0 := n3_; have HK := n4_; have HB := n5_; clear n0_ n1_ n2_ n3_ n4_ n5_; clear hb ho18) | ((with_reducible refine gate_dst (N := 10) rfl ?_); refine Kd.R_lit (Kd.int .i64) _ 2 ?hg (N := 10) ?hd (xs := ([5, 2] : List Int)) (inner := [.int .i64 5, .int .i64 2]) (ok := fun _ => True) (okp := fun _ => True) ?hr ?hp (fun _ hk => hk) trivial (Below.refl _ _) (Nat.le_refl _) (by simp) ?_; (case hd => rfl); (case hg => rfl); (case hr => first | (go_simp; done) | (go_simp; rfl)); (case hp => exact (Reps.one (show Kd.M (Kd.int .i64) _ _ _ 5 [.int .i64 5] from rfl) (Reps.one (show Kd.M (Kd.int .i64) _ _ _ 2 [.int .i64 2] from rfl) (Reps.none _ _)))); intro v931 w19 ho20 hb hg_ hnew_; clear hg_ hnew_; (first | rw [← Ny930.out] at ho20 | (simp only [Int.reduceToNat] at ho20; rw [← Ny930.out] at ho20)); have n0_ := aM (Kd.R_elder' (mR_ HO923.out) (Kd.R_base ho20) hb); have n1_ := aM (Kd.R_elder' (mR_ HO926.out) (Kd.R_base ho20) hb); have n2_ := aM (Kd.R_elder' (mR_ HO929.out) (Kd.R_base ho20) hb); have n3_ := aM (Kd.R_lower (Kd.R_new' (Kd.R_new' (Kd.R_new' ho20 (Kd.R_lt (mR_ HO923.out))) (Kd.R_lt (mR_ HO926.out))) (Kd.R_lt (mR_ HO929.out))) (keep_size (w := w) (g := g) (row := none) (zK HK.out))); have n4_ := aM (IsS98.below (zI98 HI0.out) hb); have n5_ := aM (KeepBut.trans (zK HK.out) (KeepBut.of_below hb g none) (.inl rfl)); have n6_ := aM (below_step (zs (IsS98.ge HI0.out)) hb); clear HO923 HO926 HO929 HI0 HK HB; have HO923 := n0_; have HO926 := n1_; have HO929 := n2_; have HO932 := n3_; have HI0 := n4_; have HK := n5_; have HB := n6_; clear n0_ n1_ n2_ n3_ n4_ n5_ n6_; clear hb ho20) | ((with_reducible refine gate_dst (N := 11) rfl ?_); refine Kd.R_lit (Kd.int .i64) _ 2 ?hg (N := 11) ?hd (xs := ([3, 3] : List Int)) (inner := [.int .i64 3, .int .i64 3]) (ok := fun _ => True) (okp := fun _ => True) ?hr ?hp (fun _ hk => hk) trivial (Below.refl _ _) (Nat.le_refl _) (by simp) ?_; (case hd => rfl); (case hg => rfl); (case hr => first | (go_simp; done) | (go_simp; rfl)); (case hp => exact (Reps.one (show Kd.M (Kd.int .i64) _ _ _ 3 [.int .i64 3] from rfl) (Reps.one (show Kd.M (Kd.int .i64) _ _ _ 3 [.int .i64 3] from rfl) (Reps.none _ _)))); intro v934 w21 ho22 hb hg_ hnew_; clear hg_ hnew_; (first | rw [← Ny933.out] at ho22 | (simp only [Int.reduceToNat] at ho22; rw [← Ny933.out] at ho22)); have n0_ := aM (Kd.R_elder' (mR_ HO923.out) (Kd.R_base ho22) hb); have n1_ := aM (Kd.R_elder' (mR_ HO926.out) (Kd.R_base ho22) hb); have n2_ := aM (Kd.R_elder' (mR_ HO929.out) (Kd.R_base ho22) hb); have n3_ := aM (Kd.R_elder' (mR_ HO932.out) (Kd.R_base ho22) hb); have n4_ := aM (Kd.R_lower (Kd.R_new' (Kd.R_new' (Kd.R_new' (Kd.R_new' ho22 (Kd.R_lt (mR_ HO923.out))) (Kd.R_lt (mR_ HO926.out))) (Kd.R_lt (mR_ HO929.out))) (Kd.R_lt (mR_ HO932.out))) (keep_size (w := w) (g := g) (row := none) (zK HK.out))); have n5_ := aM (IsS98.below (zI98 HI0.out) hb); have n6_ := aM (KeepBut.trans (zK HK.out) (KeepBut.of_below hb g none) (.inl rfl)); have n7_ := aM (below_step (zs (IsS98.ge HI0.out)) hb); clear HO923 HO926 HO929 HO932 HI0 HK HB; have HO923 := n0_; have HO926 := n1_; have HO929 := n2_; have HO932 := n3_; have HO935 := n4_; have HI0 := n5_; have HK := n6_; have HB := n7_; clear n0_ n1_ n2_ n3_ n4_ n5_ n6_ n7_; clear hb ho22) | ((with_reducible refine gate_dst (N := 12) rfl ?_); refine Kd.R_lit (Kd.int .i64) _ 2 ?hg (N := 12) ?hd (xs := ([6, 2] : List Int)) (inner := [.int .i64 6, .int .i64 2]) (ok := fun _ => True) (okp := fun _ => True) ?hr ?hp (fun _ hk => hk) trivial (Below.refl _ _) (Nat.le_refl _) (by simp) ?_; (case hd => rfl); (case hg => rfl); (case hr => first | (go_simp; done) | (go_simp; rfl)); (case hp => exact (Reps.one (show Kd.M (Kd.int .i64) _ _ _ 6 [.int .i64 6] from rfl) (Reps.one (show Kd.M (Kd.int .i64) _ _ _ 2 [.int .i64 2] from rfl) (Reps.none _ _)))); intro v937 w23 ho24 hb hg_ hnew_; clear hg_ hnew_; (first | rw [← Ny936.out] at ho24 | (simp only [Int.reduceToNat] at ho24; rw [← Ny936.out] at ho24)); have n0_ := aM (Kd.R_elder' (mR_ HO923.out) (Kd.R_base ho24) hb); have n1_ := aM (Kd.R_elder' (mR_ HO926.out) (Kd.R_base ho24) hb); have n2_ := aM (Kd.R_elder' (mR_ HO929.out) (Kd.R_base ho24) hb); have n3_ := aM (Kd.R_elder' (mR_ HO932.out) (Kd.R_base ho24) hb); have n4_ := aM (Kd.R_elder' (mR_ HO935.out) (Kd.R_base ho24) hb); have n5_ := aM (Kd.R_lower (Kd.R_new' (Kd.R_new' (Kd.R_new' (Kd.R_new' (Kd.R_new' ho24 (Kd.R_lt (mR_ HO923.out))) (Kd.R_lt (mR_ HO926.out))) (Kd.R_lt (mR_ HO929.out))) (Kd.R_lt (mR_ HO932.out))) (Kd.R_lt (mR_ HO935.out))) (keep_size (w := w) (g := g) (row := none) (zK HK.out))); have n6_ := aM (IsS98.below (zI98 HI0.out) hb); have n7_ := aM (KeepBut.trans (zK HK.out) (KeepBut.of_below hb g none) (.inl rfl)); have n8_ := aM (below_step (zs (IsS98.ge HI0.out)) hb); clear HO923 HO926 HO929 HO932 HO935 HI0 HK HB; have HO923 := n0_; have HO926 := n1_; have HO929 := n2_; have HO932 := n3_; have HO935 := n4_; have HO938 := n5_; have HI0 := n6_; have HK := n7_; have HB := n8_; clear n0_ n1_ n2_ n3_ n4_ n5_ n6_ n7_ n8_; clear hb ho24) | ((with_reducible refine gate_dst (N := 13) rfl ?_); refine Kd.R_lit (Kd.int .i64) _ 2 ?hg (N := 13) ?hd (xs := ([4, 2] : List Int)) (inner := [.int .i64 4, .int .i64 2]) (ok := fun _ => True) (okp := fun _ => True) ?hr ?hp (fun _ hk => hk) trivial (Below.refl _ _) (Nat.le_refl _) (by simp) ?_; (case hd => rfl); (case hg => rfl); (case hr => first | (go_simp; done) | (go_simp; rfl)); (case hp => exact (Reps.one (show Kd.M (Kd.int .i64) _ _ _ 4 [.int .i64 4] from rfl) (Reps.one (show Kd.M (Kd.int .i64) _ _ _ 2 [.int .i64 2] from rfl) (Reps.none _ _)))); intro v940 w25 ho26 hb hg_ hnew_; clear hg_ hnew_; (first | rw [← Ny939.out] at ho26 | (simp only [Int.reduceToNat] at ho26; rw [← Ny939.out] at ho26)); have n0_ := aM (Kd.R_elder' (mR_ HO923.out) (Kd.R_base ho26) hb); have n1_ := aM (Kd.R_elder' (mR_ HO926.out) (Kd.R_base ho26) hb); have n2_ := aM (Kd.R_elder' (mR_ HO929.out) (Kd.R_base ho26) hb); have n3_ := aM (Kd.R_elder' (mR_ HO932.out) (Kd.R_base ho26) hb); have n4_ := aM (Kd.R_elder' (mR_ HO935.out) (Kd.R_base ho26) hb); have n5_ := aM (Kd.R_elder' (mR_ HO938.out) (Kd.R_base ho26) hb); have n6_ := aM (Kd.R_lower (Kd.R_new' (Kd.R_new' (Kd.R_new' (Kd.R_new' (Kd.R_new' (Kd.R_new' ho26 (Kd.R_lt (mR_ HO923.out))) (Kd.R_lt (mR_ HO926.out))) (Kd.R_lt (mR_ HO929.out))) (Kd.R_lt (mR_ HO932.out))) (Kd.R_lt (mR_ HO935.out))) (Kd.R_lt (mR_ HO938.out))) (keep_size (w := w) (g := g) (row := none) (zK HK.out))); have n7_ := aM (IsS98.below (zI98 HI0.out) hb); have n8_ := aM (KeepBut.trans (zK HK.out) (KeepBut.of_below hb g none) (.inl rfl)); have n9_ := aM (below_step (zs (IsS98.ge HI0.out)) hb); clear HO923 HO926 HO929 HO932 HO935 HO938 HI0 HK HB; have HO923 := n0_; have HO926 := n1_; have HO929 := n2_; have HO932 := n3_; have HO935 := n4_; have HO938 := n5_; have HO941 := n6_; have HI0 := n7_; have HK := n8_; have HB := n9_; clear n0_ n1_ n2_ n3_ n4_ n5_ n6_ n7_ n8_ n9_ hb ho26; obtain ⟨Ao27, co27, eo27⟩ := Kd.R_slice HO923.out; subst eo27; obtain ⟨Ao28, co28, eo28⟩ := Kd.R_slice HO926.out; subst eo28; obtain ⟨Ao29, co29, eo29⟩ := Kd.R_slice HO929.out; subst eo29; obtain ⟨Ao30, co30, eo30⟩ := Kd.R_slice HO932.out; subst eo30; obtain ⟨Ao31, co31, eo31⟩ := Kd.R_slice HO935.out; subst eo31; obtain ⟨Ao32, co32, eo32⟩ := Kd.R_slice HO938.out; subst eo32; obtain ⟨Ao33, co33, eo33⟩ := Kd.R_slice HO941.out; subst eo33) | ((with_reducible refine gate_dst (N := 14) rfl ?_); refine Kd.N_lit (Kd.slice 2 (Kd.int .i64)) _ 41 ?hg (N' := 14) ?hd (xs := ([y921, y924, y927, y930, y933, y936, y939] : List (List Int))) (inner := [.slice Ao27 y921.length co27, .slice Ao28 y924.length co28, .slice Ao29 y927.length co29, .slice Ao30 y930.length co30, .slice Ao31 y933.length co31, .slice Ao32 y936.length co32, .slice Ao33 y939.length co33]) (ok := (fun k_ => k_ ≠ g)) (okp := (fun k_ => k_ ≠ g)) ?hr ?hp (fun _ hk => hk) ((show ∀ k_, w25.heap.size ≤ k_ → (fun k_ => k_ ≠ g) k_ from fun k_ hk => IsS98.fresh (zI98 HI0.out) k_ hk) _ (Nat.le_refl _)) (Below.refl _ _) (Nat.le_refl _) (by simp) ?_; (case hd => rfl); (case hg => rfl); (case hr => first | (go_simp; done) | (go_simp; rfl)); (case hp => exact (Reps.one (show Kd.FK (Kd.slice 2 (Kd.int .i64)) _ _ y921 [.slice Ao27 y921.length co27] from (Kd.FK_slice_mk (Kd.R_reads' (Kd.R_mono (ok' := (fun k_ => k_ ≠ g)) (IsS98.apart HI0.out (HO923.out) (by decide)) (fun k_ hk => hk.2))).2.1 (Kd.R_F (Kd.R_mono (ok' := (fun k_ => k_ ≠ g)) (IsS98.apart HI0.out (HO923.out) (by decide)) (fun k_ hk => hk.2))))) (Reps.one (show Kd.FK (Kd.slice 2 (Kd.int .i64)) _ _ y924 [.slice Ao28 y924.length co28] from (Kd.FK_slice_mk (Kd.R_reads' (Kd.R_mono (ok' := (fun k_ => k_ ≠ g)) (IsS98.apart HI0.out (HO926.out) (by decide)) (fun k_ hk => hk.2))).2.1 (Kd.R_F (Kd.R_mono (ok' := (fun k_ => k_ ≠ g)) (IsS98.apart HI0.out (HO926.out) (by decide)) (fun k_ hk => hk.2))))) (Reps.one (show Kd.FK (Kd.slice 2 (Kd.int .i64)) _ _ y927 [.slice Ao29 y927.length co29] from (Kd.FK_slice_mk (Kd.R_reads' (Kd.R_mono (ok' := (fun k_ => k_ ≠ g)) (IsS98.apart HI0.out (HO929.out) (by decide)) (fun k_ hk => hk.2))).2.1 (Kd.R_F (Kd.R_mono (ok' := (fun k_ => k_ ≠ g)) (IsS98.apart HI0.out (HO929.out) (by decide)) (fun k_ hk => hk.2))))) (Reps.one (show Kd.FK (Kd.slice 2 (Kd.int .i64)) _ _ y930 [.slice Ao30 y930.length co30] from (Kd.FK_slice_mk (Kd.R_reads' (Kd.R_mono (ok' := (fun k_ => k_ ≠ g)) (IsS98.apart HI0.out (HO932.out) (by decide)) (fun k_ hk => hk.2))).2.1 (Kd.R_F (Kd.R_mono (ok' := (fun k_ => k_ ≠ g)) (IsS98.apart HI0.out (HO932.out) (by decide)) (fun k_ hk => hk.2))))) (Reps.one (show Kd.FK (Kd.slice 2 (Kd.int .i64)) _ _ y933 [.slice Ao31 y933.length co31] from (Kd.FK_slice_mk (Kd.R_reads' (Kd.R_mono (ok' := (fun k_ => k_ ≠ g)) (IsS98.apart HI0.out (HO935.out) (by decide)) (fun k_ hk => hk.2))).2.1 (Kd.R_F (Kd.R_mono (ok' := (fun k_ => k_ ≠ g)) (IsS98.apart HI0.out (HO935.out) (by decide)) (fun k_ hk => hk.2))))) (Reps.one (show Kd.FK (Kd.slice 2 (Kd.int .i64)) _ _ y936 [.slice Ao32 y936.length co32] from (Kd.FK_slice_mk (Kd.R_reads' (Kd.R_mono (ok' := (fun k_ => k_ ≠ g)) (IsS98.apart HI0.out (HO938.out) (by decide)) (fun k_ hk => hk.2))).2.1 (Kd.R_F (Kd.R_mono (ok' := (fun k_ => k_ ≠ g)) (IsS98.apart HI0.out (HO938.out) (by decide)) (fun k_ hk => hk.2))))) (Reps.one (show Kd.FK (Kd.slice 2 (Kd.int .i64)) _ _ y939 [.slice Ao33 y939.length co33] from (Kd.FK_slice_mk (Kd.R_reads' (Kd.R_mono (ok' := (fun k_ => k_ ≠ g)) (IsS98.apart HI0.out (HO941.out) (by decide)) (fun k_ hk => hk.2))).2.1 (Kd.R_F (Kd.R_mono (ok' := (fun k_ => k_ ≠ g)) (IsS98.apart HI0.out (HO941.out) (by decide)) (fun k_ hk => hk.2))))) (Reps.none _ _))))))))); intro v943 w34 ho35 hb hg_ hnew_; clear hg_ hnew_; (first | rw [← Ny942.out] at ho35 | (simp only [Int.reduceToNat] at ho35; rw [← Ny942.out] at ho35)); have n0_ := aM (Kd.N_lower ho35 (keep_size (w := w) (g := g) (row := none) (zK HK.out))); have n1_ := aM (IsS98.below (zI98 HI0.out) hb); have n2_ := aM (KeepBut.trans (zK HK.out) (KeepBut.of_below hb g none) (.inl rfl)); have n3_ := aM (below_step (zs (IsS98.ge HI0.out)) hb); clear HI0 HK HB HO923 HO926 HO929 HO932 HO935 HO938 HO941; have HO944 := n0_; have HI0 := n1_; have HK := n2_; have HB := n3_; clear n0_ n1_ n2_ n3_; clear hb ho35) | ((with_reducible refine gate_callee (f := 71) rfl ?_); refine goesL_ (some 17) rfl rfl Try.func71 (by kernel_rfl) rfl #[.pointer (some ⟨g, 0, none⟩), .int .i64 7] rfl zm ?_; (with_reducible refine (spec_l01Next.calls g s0_0 s0_1 s0_2 7 t945 t946 t947 w0 _ ?side1 ?side2 A2.out).mono ?_); (case side1 => exact zI98 HI0.out); (case side2 => exact zs (IsS98.ge HI0.out)); rintro e w36 ⟨rfl, hi, hb, hk⟩; refine ⟨_, rfl, ?_⟩; have n0_ := aM (Kd.N_mono (Kd.N_keep (Kd.N_mono (ok := fun k_ => k_ ≠ g) (mN_ HO944.out) (fun k_ hk_ => (⟨hk_, hk_⟩ : _ ∧ k_ ≠ g))) hk (fun _ h => h.2)) (fun _ h => h.1)); have n1_ := aM (KeepBut.trans (zK HK.out) hk (.inl rfl)); have n2_ := aM (hb); have n3_ := aM (hi); clear HO944 HK HB HI0; have HO944 := n0_; have HK := n1_; have HB := n2_; have HI0 := n3_; clear n0_ n1_ n2_ n3_; (try clear hb); (try clear hb2); (try clear hk); (try clear hi); obtain ⟨Ao37, co37, eo37⟩ := Kd.N_slice HO944.out; subst eo37; have p948 : 0 ≤ (t945 : Int) := of_decide_eq_true za; have q948 : t945 < (y942.length : Int) := of_decide_eq_true za; obtain ⟨ad948, A948_0, c948_0, e948, hx948_0, hl948_0, hi948_0⟩ := at_L6 (Kd.N_reads' HO944.out).2.2 t945 p948 q948; cases e948; obtain ⟨ce948, hce948, hMe948, hcc948⟩ := Kd.N_get HO944.out [] t945 p948 (by first | exact q948 | exact of_decide_eq_true za | (have e_ := (Kd.N_reads' HO944.out).1; omega)); obtain ⟨ua948_0, uc948_0, rfl, ul948_0, ge948_0⟩ := Kd.FK_slice_open hMe948; have hv948_0 := hcc948 0 _ rfl; rw [Nat.add_zero, show ((Kd.slice 2 (Kd.int .i64))).sz = 1 from rfl, Nat.mul_one] at hv948_0; replace hv948_0 := Option.some.inj (hv948_0.symm.trans hx948_0); injection hv948_0 with hva_ hvn_ hvc_; rw [hva_] at ge948_0; rw [hvc_] at ul948_0; have HL948_0 := aM (show Kd.V (Kd.int .i64) 2 _ w.heap.size _ _ (rd_L6 y942 t945) from Kd.V_mk ul948_0 ge948_0); clear hva_ hvn_ hvc_ ge948_0 ul948_0 hcc948 hce948; have HR948_0 := aM hi948_0; have HC948_0 := aM hl948_0; clear hi948_0 hl948_0; replace p948 := eq_true p948; replace q948 := eq_true q948))
 have n0_ := aM (Kd.N_drew HO944.out)
 have n1_ := aM (Kd.V_drew HL948_0.out)
 have n2_ := aM (Kd.C_drew HR948_0.out)
 have n3_ := aM (IsS98.drew HI0.out)
 have n4_ := aM (keep_drew HK.out)
 have n5_ := aM (below_drew1 HB.out)
 clear HO944
 clear HL948_0
 clear HR948_0
 clear HI0
 clear HK
 clear HB
 have HO944 := n0_
 have HL948_0 := n1_
 have HR948_0 := n2_
 have HI0 := n3_
 have HK := n4_
 have HB := n5_
 clear n0_ n1_ n2_ n3_ n4_ n5_
 have p949 : 0 ≤ (0 : Int) := (by omega)
 have q949 : 0 < ((rd_L6 y942 t945).length : Int) := of_decide_eq_true za
 obtain ⟨ad949, e949, hx949_0⟩ := Kd.at_int (mQ_ HR948_0.out) 0 p949 q949
 cases e949
 have qi949 : (0 < (rd_L6 y942 t945).length) = True := eq_true (by omega)
 (try rw [show ((0 : Int)).toNat = 0 from rfl] at hx949_0)
 (try rw [Addr.add_zero'] at hx949_0)
 replace p949 := eq_true p949
 replace q949 := eq_true q949
 have p950 : 0 ≤ (1 : Int) := (by omega)
 have q950 : 1 < ((rd_L6 y942 t945).length : Int) := of_decide_eq_true za
 obtain ⟨ad950, e950, hx950_0⟩ := Kd.at_int (mQ_ HR948_0.out) 1 p950 q950
 obtain rfl : ad949 = ad950 := (by injection e950)
 (try simp only [show (1 : Int).toNat = 1 from rfl, Nat.reduceMul, Nat.reduceEqDiff, Go.Addr.add, ↓reduceIte] at hx950_0)
 have qi950 : (1 < (rd_L6 y942 t945).length) = True := eq_true (by omega)
 (try rw [show ((1 : Int)).toNat = 1 from rfl] at hx950_0)
 replace p950 := eq_true p950
 replace q950 := eq_true q950
 refine start_ (n := 8) (S := fun w' => w'.cell? ad949 = some (.int .i64 (rd (rd_L6 y942 t945) 0)) ∧ w'.cell? ⟨ad949.block, ad949.off + 1, none⟩ = some (.int .i64 (rd (rd_L6 y942 t945) 1))) (ds := []) #[false, false, false, false, false, false, false, false] (by kernel_rfl) rfl rfl ⟨hx949_0, hx950_0⟩ (fun hHeld => ?_); refine with_tabW spec_l10DrawSmall.tab3 spec_l10DrawSmall.bits3 (fun HT_ HW_ => ?_)
 generalize w36.drew = w38 at HO944 HL948_0 HR948_0 HI0 HK HB hx949_0 hx950_0 hHeld ⊢
 refine zp 0 (some 20) ?_ #[true, false, false, false, false, false, false, false] rfl rfl (Or.inl ⟨by rfl, ?_⟩) ?_ ?_ ?_
 rotate_left
 ·intro w'
  go_simp
  with_reducible rfl
 rotate_left
 ·simp only [Act.put, xA, xB, xC, i64_w, i32_w]
  rfl
 refine zp 1 (some 21) ?_ #[true, true, false, false, false, false, false, false] rfl rfl (Or.inl ⟨by rfl, ?_⟩) ?_ ?_ ?_
 rotate_left
 ·intro w'
  go_simp
  with_reducible rfl
 rotate_left
 ·simp only [Act.put, xA, xB, xC, i64_w, i32_w]
  rfl
 refine zp 3 (some 23) ?_ #[true, true, false, true, false, false, false, false] rfl rfl (Or.inl ⟨by rfl, ?_⟩) ?_ ?_ ?_
 rotate_left
 ·intro w'
  go_simp
  with_reducible rfl
 rotate_left
 ·simp only [Act.put, xA, xB, xC, i64_w, i32_w]
  rfl
 refine zp 4 (some 24) ?_ #[true, true, false, true, true, false, false, false] rfl rfl (Or.inl ⟨by rfl, ?_⟩) ?_ ?_ ?_
 rotate_left
 ·intro w'
  go_simp
  with_reducible rfl
 rotate_left
 ·simp only [Act.put, xA, xB, xC, i64_w, i32_w]
  rfl
 refine zu 2 (some 22) ?_ #[true, true, true, true, true, false, false, false] rfl rfl (Or.inl ⟨by rfl, ?_⟩) hHeld ?_ ?_ ?_
 rotate_left
 ·rintro w' ⟨s0, s1⟩
  go_simp
  with_reducible rfl
 rotate_left
 ·simp only [Act.put, xA, xB, xC, i64_w, i32_w]
  rfl
 refine zu 5 (some 25) ?_ #[true, true, true, true, true, true, false, false] rfl rfl (Or.inl ⟨by rfl, ?_⟩) hHeld ?_ ?_ ?_
 rotate_left
 ·rintro w' ⟨s0, s1⟩
  go_simp
  with_reducible rfl
 rotate_left
 ·simp only [Act.put, xA, xB, xC, i64_w, i32_w]
  rfl
 refine one_ (i := 6) (N := some 26) #[true, true, true, true, true, true, true, false] rfl rfl (one_of HT_.out (by kernel_rfl)) (by decide) (fun K hK => ?_)
 refine goes_ Try.func117 (by kernel_rfl) rfl #[.int .i64 (rd (rd_L6 y942 t945) 0), .int .i64 (rd (rd_L6 y942 t945) 1)] (by rfl) rfl rfl zm ?_
 with_reducible refine (spec_l10Rectangle.calls k (rd (rd_L6 y942 t945) 0) (rd (rd_L6 y942 t945) 1) t951 _ A7.out).mono ?_
 rintro e w39 ⟨v952, rfl, ho0, hb⟩
 have HS0_ := zk hb (hHeld.1)
 have HS1_ := zk hb (hHeld.2)
 refine ⟨_, rfl, ?_⟩
 have n0_ := aM (Kd.N_elder' (mN_ HO944.out) (Kd.R_base ho0) hb)
 have n1_ := aM (Kd.V_elder' (mV_ HL948_0.out) (Kd.R_base ho0) hb)
 have n2_ := aM (Kd.R_lower ho0 (keep_size (w := w) (g := g) (row := none) (zK HK.out)))
 have n3_ := aM (IsS98.below (zI98 HI0.out) hb)
 have n4_ := aM (Kd.C_below (mQ_ HR948_0.out) hb)
 have n5_ := aM (KeepBut.trans (zK HK.out) (KeepBut.of_below hb g none) (.inl rfl))
 have n6_ := aM (below_step (zs (IsS98.ge HI0.out)) hb)
 clear HO944
 clear HL948_0
 clear HI0
 clear HR948_0
 clear HK
 clear HB
 have HO944 := n0_
 have HL948_0 := n1_
 have HO953 := n2_
 have HI0 := n3_
 have HR948_0 := n4_
 have HK := n5_
 have HB := n6_
 clear n0_ n1_ n2_ n3_ n4_ n5_ n6_
 (try clear hb)
 (try clear hb2)
 (try clear hk)
 (try clear hi)
 (try clear ho0)
 refine hK.out _ _ ⟨HS0_, HS1_⟩ (fun hHeld => ?_)
 clear hK K
 refine norm_ (a' := ?_) ?_ ?_
 rotate_left
 ·show Act.put _ (some 26) _ = _
  simp only [Act.put, xA, xB, xC, i64_w, i32_w]
  rfl
 refine zp 7 (some 5) ?_ #[true, true, true, true, true, true, true, true] rfl rfl (Or.inl ⟨by rfl, ?_⟩) ?_ ?_ ?_
 rotate_left
 ·intro w'
  go_simp
  with_reducible rfl
 rotate_left
 ·simp only [Act.put, xA, xB, xC, i64_w, i32_w]
  rfl
 refine done_ (done_of HT_.out (by kernel_rfl)) ?_
 try go_wp2_with (first | ((with_reducible refine gate_callee (f := 71) rfl ?_); refine goesL_ (some 28) rfl rfl Try.func71 (by kernel_rfl) rfl #[.pointer (some ⟨g, 0, none⟩), .int .i64 3] rfl zm ?_; (with_reducible refine (spec_l01Next.calls g s0_0 t946 t947 3 t954 t955 t956 w0 _ ?side1 ?side2 A8.out).mono ?_); (case side1 => exact zI98 HI0.out); (case side2 => exact zs (IsS98.ge HI0.out)); rintro e w40 ⟨rfl, hi, hb, hk⟩; refine ⟨_, rfl, ?_⟩; have n0_ := aM (Kd.N_mono (Kd.N_keep (Kd.N_mono (ok := fun k_ => (k_ ≠ g ∧ some k_ ≠ (v952 : Value).ownBlock)) (mN_ HO944.out) (fun k_ hk_ => (⟨hk_, hk_.1⟩ : _ ∧ k_ ≠ g))) hk (fun _ h => h.2)) (fun _ h => h.1)); have n1_ := aM (Kd.V_mono (Kd.V_keep (Kd.V_mono (ok := fun k_ => ((k_ ≠ g ∧ some k_ ≠ (.slice (some ad948) y942.length co37 : Value).ownBlock) ∧ some k_ ≠ (v952 : Value).ownBlock)) (mV_ HL948_0.out) (fun k_ hk_ => (⟨hk_, hk_.1.1⟩ : _ ∧ k_ ≠ g))) hk (fun _ h => h.2)) (fun _ h => h.1)); have n2_ := aM (Kd.R_mono (Kd.R_keep (IsS98.apart (show IsS98 w0 _ g s0_0 t946 t947 from zI98 HI0.out) (mR_ HO953.out) (by decide)) hk (fun _ h => h.2)) (fun _ h => h.1)); have n3_ := aM (KeepBut.trans (zK HK.out) hk (.inl rfl)); have n4_ := aM (hb); have n5_ := aM (hi); clear HO944 HL948_0 HO953 HK HB HI0; have HO944 := n0_; have HL948_0 := n1_; have HO953 := n2_; have HK := n3_; have HB := n4_; have HI0 := n5_; clear n0_ n1_ n2_ n3_ n4_ n5_; (try clear hb); (try clear hb2); (try clear hk); (try clear hi); obtain ⟨Ao41, co41, eo41⟩ := Kd.R_slice HO953.out; subst eo41) | ((with_reducible refine gate_callee (f := 71) rfl ?_); refine goesL_ (some 33) rfl rfl Try.func71 (by kernel_rfl) rfl #[.pointer (some ⟨g, 0, none⟩), .int .i64 (t951.length : Int)] rfl zm ?_; (with_reducible refine (spec_l01Next.calls g s0_0 t955 t956 (t951.length : Int) t957 t958 t959 w0 _ ?side1 ?side2 A10.out).mono ?_); (case side1 => exact zI98 HI0.out); (case side2 => exact zs (IsS98.ge HI0.out)); rintro e w42 ⟨rfl, hi, hb, hk⟩; refine ⟨_, rfl, ?_⟩; have n0_ := aM (Kd.N_mono (Kd.N_keep (Kd.N_mono (ok := fun k_ => (k_ ≠ g ∧ some k_ ≠ (.slice Ao41 t951.length co41 : Value).ownBlock)) (mN_ HO944.out) (fun k_ hk_ => (⟨hk_, hk_.1⟩ : _ ∧ k_ ≠ g))) hk (fun _ h => h.2)) (fun _ h => h.1)); have n1_ := aM (Kd.V_mono (Kd.V_keep (Kd.V_mono (ok := fun k_ => ((k_ ≠ g ∧ some k_ ≠ (.slice (some ad948) y942.length co37 : Value).ownBlock) ∧ some k_ ≠ (.slice Ao41 t951.length co41 : Value).ownBlock)) (mV_ HL948_0.out) (fun k_ hk_ => (⟨hk_, hk_.1.1⟩ : _ ∧ k_ ≠ g))) hk (fun _ h => h.2)) (fun _ h => h.1)); have n2_ := aM (Kd.R_mono (Kd.R_keep (IsS98.apart (show IsS98 w0 _ g s0_0 t955 t956 from zI98 HI0.out) (mR_ HO953.out) (by decide)) hk (fun _ h => h.2)) (fun _ h => h.1)); have n3_ := aM (KeepBut.trans (zK HK.out) hk (.inl rfl)); have n4_ := aM (hb); have n5_ := aM (hi); clear HO944 HL948_0 HO953 HK HB HI0; have HO944 := n0_; have HL948_0 := n1_; have HO953 := n2_; have HK := n3_; have HB := n4_; have HI0 := n5_; clear n0_ n1_ n2_ n3_ n4_ n5_; (try clear hb); (try clear hb2); (try clear hk); (try clear hi)) | ((with_reducible refine gate_callee (f := 135) rfl ?_); refine goesL_ (some 36) rfl rfl Try.func135 (by kernel_rfl) rfl #[.slice Ao41 t951.length co41, .int .i64 t957] rfl zm ?_; (with_reducible refine (spec_l05Without.calls _ _ t951 t957 t960 _ ?side1 ?side2 A11.out).mono ?_); (case side1 => exact zc HO953.out); (case side2 => exact (Kd.R_reads' HO953.out).2.1); rintro e w43 ⟨v961, rfl, ho0, hb⟩; refine ⟨_, rfl, ?_⟩; have n0_ := aM (Kd.N_elder' (mN_ HO944.out) (Kd.R_base ho0) hb); have n1_ := aM (Kd.V_elder' (mV_ HL948_0.out) (Kd.R_base ho0) hb); have n2_ := aM (Kd.R_elder' (mR_ HO953.out) (Kd.R_base ho0) hb); have n3_ := aM (Kd.R_lower (Kd.R_new' ho0 (Kd.R_lt (mR_ HO953.out))) (keep_size (w := w) (g := g) (row := none) (zK HK.out))); have n4_ := aM (IsS98.below (zI98 HI0.out) hb); have n5_ := aM (KeepBut.trans (zK HK.out) (KeepBut.of_below hb g none) (.inl rfl)); have n6_ := aM (below_step (zs (IsS98.ge HI0.out)) hb); clear HO944 HL948_0 HO953 HI0 HK HB; have HO944 := n0_; have HL948_0 := n1_; have HO953 := n2_; have HO962 := n3_; have HI0 := n4_; have HK := n5_; have HB := n6_; clear n0_ n1_ n2_ n3_ n4_ n5_ n6_; (try clear hb); (try clear hb2); (try clear hk); (try clear hi); (try clear ho0); obtain ⟨Ao44, co44, eo44⟩ := Kd.R_slice HO962.out; subst eo44) | ((with_reducible refine gate_callee (f := 126) rfl ?_); refine goesL_ (some 37) rfl rfl Try.func126 (by kernel_rfl) rfl #[.slice Ao44 t960.length co44] rfl zm ?_; (with_reducible refine (spec_l02Normal.calls k _ _ t960 t963 _ ?side1 ?side2 A12.out).mono ?_); (case side1 => exact zc HO962.out); (case side2 => exact (Kd.R_reads' HO962.out).2.1); rintro e w45 ⟨v964, rfl, ho0, hb⟩; refine ⟨_, rfl, ?_⟩; have n0_ := aM (Kd.N_elder' (mN_ HO944.out) (Kd.R_base ho0) hb); have n1_ := aM (Kd.V_elder' (mV_ HL948_0.out) (Kd.R_base ho0) hb); have n2_ := aM (Kd.R_elder' (mR_ HO953.out) (Kd.R_base ho0) hb); have n3_ := aM (Kd.R_elder' (mR_ HO962.out) (Kd.R_base ho0) hb); have n4_ := aM (Kd.R_lower (Kd.R_new' (Kd.R_new' ho0 (Kd.R_lt (mR_ HO953.out))) (Kd.R_lt (mR_ HO962.out))) (keep_size (w := w) (g := g) (row := none) (zK HK.out))); have n5_ := aM (IsS98.below (zI98 HI0.out) hb); have n6_ := aM (KeepBut.trans (zK HK.out) (KeepBut.of_below hb g none) (.inl rfl)); have n7_ := aM (below_step (zs (IsS98.ge HI0.out)) hb); clear HO944 HL948_0 HO953 HO962 HI0 HK HB; have HO944 := n0_; have HL948_0 := n1_; have HO953 := n2_; have HO962 := n3_; have HO965 := n4_; have HI0 := n5_; have HK := n6_; have HB := n7_; clear n0_ n1_ n2_ n3_ n4_ n5_ n6_ n7_; (try clear hb); (try clear hb2); (try clear hk); (try clear hi); (try clear ho0)))
 go_ret
 exact ⟨_, zw, zd0 HO965.out, zI98 HI0.out, zs (IsS98.ge HI0.out), zK HK.out⟩
def spec_l10Draw.j0 : Nat → Bool → List Int → Int → Int → Option ((List (S59)) × Int × Int)
 | 0, _, _, _, _ => none
 | k + 1, x20, x1000, x1001, x1002 => if x20 = true then ((spec_l02DrawPoly.f k x1000 x1001 x1002 9).bind fun bt983 => (some (bt983.1, bt983.2.1, bt983.2.2))) else ((spec_l10DrawSmall.f k x1000 x1001 x1002).bind fun bt988 => (some (bt988.1, bt988.2.1, bt988.2.2)))
def spec_l10Draw.f (k : Nat) (s0_0 : List Int) (s0_1 : Int) (s0_2 : Int) : Option ((List (S59)) × Int × Int) := (spec_l01Next.f s0_0 s0_1 s0_2 24).bind fun bt966 => (if bt966.1 = 0 then ((spec_l02Draw.f k s0_0 bt966.2.1 bt966.2.2).bind fun bt969 => (some (bt969.1, bt969.2.1, bt969.2.2))) else (if bt966.1 = 1 then ((spec_l10Rectangle.f k 20 2).bind fun t974 => (some (t974, bt966.2.1, bt966.2.2))) else (if bt966.1 = 2 then ((spec_l01Next.f s0_0 bt966.2.1 bt966.2.2 2).bind fun bt977 => (some ((([(⟨0, 0⟩ : S59), (⟨wrap64 (19 + bt977.1), 0⟩ : S59)] : List (S59))), bt977.2.1, bt977.2.2))) else (if bt966.1 = 3 then (spec_l10Draw.j0 k (bt966.1 == 3) s0_0 bt966.2.1 bt966.2.2) else (spec_l10Draw.j0 k (bt966.1 == 4) s0_0 bt966.2.1 bt966.2.2)))))
theorem spec_l10Draw.calls (k : Nat) (g : Nat) (s0_0 : List Int) (s0_1 : Int) (s0_2 : Int) (r1 : List (S59)) (r2 : Int) (r3 : Int) (w0 w : World) (hI : IsS98 w0 w g s0_0 s0_1 s0_2) (hB : Below w0.heap.size w0 w) (h : spec_l10Draw.f k s0_0 s0_1 s0_2 = some (r1, r2, r3)) :
  Calls Try.prog 77 #[.pointer (some ⟨g, 0, none⟩)] w fun e w' => ∃ v0_ : Value, e = .returned (v0_) ∧ Kd.R k59 59 w' w.heap.size (fun _ => True) v0_ r1 ∧ IsS98 w0 w' g s0_0 r2 r3 ∧ Below w0.heap.size w0 w' ∧ KeepBut w w' g none := by
 have hu59 := Try.underlying59
 have HI0 := aM hI
 have HK := aM (KeepBut.refl w g none)
 have HL := aM hB.size
 clear hI
 have HW0 := aM hB.size
 have HB := aM hB
 clear hB
 have H : ((spec_l01Next.f s0_0 s0_1 s0_2 24).bind fun bt966 => (if bt966.1 = 0 then ((spec_l02Draw.f k s0_0 bt966.2.1 bt966.2.2).bind fun bt969 => (some (bt969.1, bt969.2.1, bt969.2.2))) else (if bt966.1 = 1 then ((spec_l10Rectangle.f k 20 2).bind fun t974 => (some (t974, bt966.2.1, bt966.2.2))) else (if bt966.1 = 2 then ((spec_l01Next.f s0_0 bt966.2.1 bt966.2.2 2).bind fun bt977 => (some ((([(⟨0, 0⟩ : S59), (⟨wrap64 (19 + bt977.1), 0⟩ : S59)] : List (S59))), bt977.2.1, bt977.2.2))) else (if bt966.1 = 3 then (spec_l10Draw.j0 k (bt966.1 == 3) s0_0 bt966.2.1 bt966.2.2) else (spec_l10Draw.j0 k (bt966.1 == 4) s0_0 bt966.2.1 bt966.2.2)))))) = some (r1, r2, r3) := h
 clear h
 replace H := Option.bind_eq_some_iff.mp H
 obtain ⟨⟨t966, t967, t968⟩, A20, H⟩ := H
 replace H : (if t966 = 0 then ((spec_l02Draw.f k s0_0 t967 t968).bind fun bt969 => (some (bt969.1, bt969.2.1, bt969.2.2))) else (if t966 = 1 then ((spec_l10Rectangle.f k 20 2).bind fun t974 => (some (t974, t967, t968))) else (if t966 = 2 then ((spec_l01Next.f s0_0 t967 t968 2).bind fun bt977 => (some ((([(⟨0, 0⟩ : S59), (⟨wrap64 (19 + bt977.1), 0⟩ : S59)] : List (S59))), bt977.2.1, bt977.2.2))) else (if t966 = 3 then (spec_l10Draw.j0 k (t966 == 3) s0_0 t967 t968) else (spec_l10Draw.j0 k (t966 == 4) s0_0 t967 t968))))) = some (r1, r2, r3) := H
 have A2 := aM A20
 clear A20
 by_cases c3 : t966 = 0
 ·rw [if_pos c3] at H
  have c3b0 : (t966 == 0) = true := beq_iff_eq.mpr c3
  have c3b1 : (t966 != 0) = false := bne_eq_false_iff_eq.mpr c3
  clear c3
  replace H := Option.bind_eq_some_iff.mp H
  obtain ⟨⟨t969, t972, t973⟩, A40, H⟩ := H
  replace H : (some (t969, t972, t973)) = some (r1, r2, r3) := H
  have A4 := aM A40
  clear A40
  simp only [Option.some.injEq, Prod.mk.injEq] at H
  obtain ⟨rfl, rfl, rfl⟩ := H
  go_enter Try.func77, Try.ntmps77
  go_wp2_with (first | ((with_reducible refine gate_callee (f := 71) rfl ?_); refine goesL_ (some 4) rfl rfl Try.func71 (by kernel_rfl) rfl #[.pointer (some ⟨g, 0, none⟩), .int .i64 24] rfl zm ?_; (with_reducible refine (spec_l01Next.calls g s0_0 s0_1 s0_2 24 t966 t967 t968 w0 _ ?side1 ?side2 A2.out).mono ?_); (case side1 => exact zI98 HI0.out); (case side2 => exact zs (IsS98.ge HI0.out)); rintro e w5 ⟨rfl, hi, hb, hk⟩; refine ⟨_, rfl, ?_⟩; have n0_ := aM (KeepBut.trans (zK HK.out) hk (.inl rfl)); have n1_ := aM (hb); have n2_ := aM (hi); clear HK HB HI0; have HK := n0_; have HB := n1_; have HI0 := n2_; clear n0_ n1_ n2_; (try clear hb); (try clear hb2); (try clear hk); (try clear hi)) | ((with_reducible refine gate_callee (f := 103) rfl ?_); refine goesL_ (some 8) rfl rfl Try.func103 (by kernel_rfl) rfl #[.pointer (some ⟨g, 0, none⟩)] rfl zm ?_; (with_reducible refine (spec_l02Draw.calls k g s0_0 t967 t968 t969 t972 t973 w0 _ ?side1 ?side2 A4.out).mono ?_); (case side1 => exact zI98 HI0.out); (case side2 => exact zs (IsS98.ge HI0.out)); rintro e w6 ⟨v970, rfl, ho0, hi, hb, hk⟩; refine ⟨_, rfl, ?_⟩; have n0_ := aM (Kd.R_lower ho0 (keep_size (w := w) (g := g) (row := none) (zK HK.out))); have n1_ := aM (KeepBut.trans (zK HK.out) hk (.inl rfl)); have n2_ := aM (hb); have n3_ := aM (hi); clear HK HB HI0; have HO971 := n0_; have HK := n1_; have HB := n2_; have HI0 := n3_; clear n0_ n1_ n2_ n3_; (try clear hb); (try clear hb2); (try clear hk); (try clear hi); (try clear ho0)))
  go_ret
  exact ⟨_, zw, mR_ HO971.out, zI98 HI0.out, zs (IsS98.ge HI0.out), zK HK.out⟩
 rw [if_neg c3] at H
 have c3b0 : (t966 == 0) = false := beq_eq_false_iff_ne.mpr c3
 have c3b1 : (t966 != 0) = true := bne_iff_ne.mpr c3
 by_cases c7 : t966 = 1
 ·rw [if_pos c7] at H
  have c7b0 : (t966 == 1) = true := beq_iff_eq.mpr c7
  have c7b1 : (t966 != 1) = false := bne_eq_false_iff_eq.mpr c7
  clear c7
  replace H := Option.bind_eq_some_iff.mp H
  obtain ⟨t974, A80, H⟩ := H
  replace H : (some (t974, t967, t968)) = some (r1, r2, r3) := H
  have A8 := aM A80
  clear A80
  simp only [Option.some.injEq, Prod.mk.injEq] at H
  obtain ⟨rfl, rfl, rfl⟩ := H
  go_enter Try.func77, Try.ntmps77
  go_wp2_with (first | ((with_reducible refine gate_callee (f := 71) rfl ?_); refine goesL_ (some 4) rfl rfl Try.func71 (by kernel_rfl) rfl #[.pointer (some ⟨g, 0, none⟩), .int .i64 24] rfl zm ?_; (with_reducible refine (spec_l01Next.calls g s0_0 s0_1 s0_2 24 t966 t967 t968 w0 _ ?side1 ?side2 A2.out).mono ?_); (case side1 => exact zI98 HI0.out); (case side2 => exact zs (IsS98.ge HI0.out)); rintro e w9 ⟨rfl, hi, hb, hk⟩; refine ⟨_, rfl, ?_⟩; have n0_ := aM (KeepBut.trans (zK HK.out) hk (.inl rfl)); have n1_ := aM (hb); have n2_ := aM (hi); clear HK HB HI0; have HK := n0_; have HB := n1_; have HI0 := n2_; clear n0_ n1_ n2_; (try clear hb); (try clear hb2); (try clear hk); (try clear hi)) | ((with_reducible refine gate_callee (f := 117) rfl ?_); refine goesL_ (some 11) rfl rfl Try.func117 (by kernel_rfl) rfl #[.int .i64 20, .int .i64 2] rfl zm ?_; (with_reducible refine (spec_l10Rectangle.calls k 20 2 t974 _ A8.out).mono ?_); rintro e w10 ⟨v975, rfl, ho0, hb⟩; refine ⟨_, rfl, ?_⟩; have n0_ := aM (Kd.R_lower ho0 (keep_size (w := w) (g := g) (row := none) (zK HK.out))); have n1_ := aM (IsS98.below (zI98 HI0.out) hb); have n2_ := aM (KeepBut.trans (zK HK.out) (KeepBut.of_below hb g none) (.inl rfl)); have n3_ := aM (below_step (zs (IsS98.ge HI0.out)) hb); clear HI0 HK HB; have HO976 := n0_; have HI0 := n1_; have HK := n2_; have HB := n3_; clear n0_ n1_ n2_ n3_; (try clear hb); (try clear hb2); (try clear hk); (try clear hi); (try clear ho0)))
  go_ret
  exact ⟨_, zw, mR_ HO976.out, zI98 HI0.out, zs (IsS98.ge HI0.out), zK HK.out⟩
 rw [if_neg c7] at H
 have c7b0 : (t966 == 1) = false := beq_eq_false_iff_ne.mpr c7
 have c7b1 : (t966 != 1) = true := bne_iff_ne.mpr c7
 by_cases c11 : t966 = 2
 ·rw [if_pos c11] at H
  have c11b0 : (t966 == 2) = true := beq_iff_eq.mpr c11
  have c11b1 : (t966 != 2) = false := bne_eq_false_iff_eq.mpr c11
  clear c11
  replace H := Option.bind_eq_some_iff.mp H
  obtain ⟨⟨t977, t978, t979⟩, A120, H⟩ := H
  replace H : (some ((([(⟨0, 0⟩ : S59), (⟨wrap64 (19 + t977), 0⟩ : S59)] : List (S59))), t978, t979)) = some (r1, r2, r3) := H
  have A12 := aM A120
  clear A120
  obtain ⟨y980, hy980⟩ : ∃ y_ : List (S59), y_ = (([(⟨0, 0⟩ : S59), (⟨wrap64 (19 + t977), 0⟩ : S59)] : List (S59))) := ⟨_, rfl⟩
  replace H : (some (y980, t978, t979)) = some (r1, r2, r3) := zy H hy980
  have Ny980 := aM hy980
  clear hy980
  simp only [Option.some.injEq, Prod.mk.injEq] at H
  obtain ⟨rfl, rfl, rfl⟩ := H
  go_enter Try.func77, Try.ntmps77
  go_wp2_with (first | ((with_reducible refine gate_callee (f := 71) rfl ?_); refine goesL_ (some 4) rfl rfl Try.func71 (by kernel_rfl) rfl #[.pointer (some ⟨g, 0, none⟩), .int .i64 24] rfl zm ?_; (with_reducible refine (spec_l01Next.calls g s0_0 s0_1 s0_2 24 t966 t967 t968 w0 _ ?side1 ?side2 A2.out).mono ?_); (case side1 => exact zI98 HI0.out); (case side2 => exact zs (IsS98.ge HI0.out)); rintro e w13 ⟨rfl, hi, hb, hk⟩; refine ⟨_, rfl, ?_⟩; have n0_ := aM (KeepBut.trans (zK HK.out) hk (.inl rfl)); have n1_ := aM (hb); have n2_ := aM (hi); clear HK HB HI0; have HK := n0_; have HB := n1_; have HI0 := n2_; clear n0_ n1_ n2_; (try clear hb); (try clear hb2); (try clear hk); (try clear hi)) | ((with_reducible refine gate_callee (f := 71) rfl ?_); refine goesL_ (some 16) rfl rfl Try.func71 (by kernel_rfl) rfl #[.pointer (some ⟨g, 0, none⟩), .int .i64 2] rfl zm ?_; (with_reducible refine (spec_l01Next.calls g s0_0 t967 t968 2 t977 t978 t979 w0 _ ?side1 ?side2 A12.out).mono ?_); (case side1 => exact zI98 HI0.out); (case side2 => exact zs (IsS98.ge HI0.out)); rintro e w14 ⟨rfl, hi, hb, hk⟩; refine ⟨_, rfl, ?_⟩; have n0_ := aM (KeepBut.trans (zK HK.out) hk (.inl rfl)); have n1_ := aM (hb); have n2_ := aM (hi); clear HK HB HI0; have HK := n0_; have HB := n1_; have HI0 := n2_; clear n0_ n1_ n2_; (try clear hb); (try clear hb2); (try clear hk); (try clear hi)) | ((with_reducible refine gate_dst (N := 19) rfl ?_); refine Kd.R_lit k59 _ 59 ?hg (N := 19) ?hd (xs := ([(⟨0, 0⟩ : S59), (⟨wrap64 (19 + t977), 0⟩ : S59)] : List (S59))) (inner := [.int .i64 0, .int .i64 0, .int .i64 (wrap64 (19 + t977)), .int .i64 0]) (ok := fun _ => True) (okp := fun _ => True) ?hr ?hp (fun _ hk => hk) trivial (Below.refl _ _) (Nat.le_refl _) (by simp) ?_; (case hd => rfl); (case hg => rfl); (case hr => first | (go_simp; done) | (go_simp; rfl)); (case hp => exact (Reps.c2 (show Kd.M k59 _ _ _ (⟨0, 0⟩ : S59) [.int .i64 0, .int .i64 0] from (k59_mkM _ _ _ (⟨0, 0⟩ : S59) )) (Reps.c2 (show Kd.M k59 _ _ _ (⟨wrap64 (19 + t977), 0⟩ : S59) [.int .i64 (wrap64 (19 + t977)), .int .i64 0] from (k59_mkM _ _ _ (⟨wrap64 (19 + t977), 0⟩ : S59) )) (Reps.none _ _)))); intro v981 w15 ho16 hb hg_ hnew_; clear hg_ hnew_; (first | rw [← Ny980.out] at ho16 | (simp only [Int.reduceToNat] at ho16; rw [← Ny980.out] at ho16)); have n0_ := aM (Kd.R_lower ho16 (keep_size (w := w) (g := g) (row := none) (zK HK.out))); have n1_ := aM (IsS98.below (zI98 HI0.out) hb); have n2_ := aM (KeepBut.trans (zK HK.out) (KeepBut.of_below hb g none) (.inl rfl)); have n3_ := aM (below_step (zs (IsS98.ge HI0.out)) hb); clear HI0 HK HB; have HO982 := n0_; have HI0 := n1_; have HK := n2_; have HB := n3_; clear n0_ n1_ n2_ n3_; clear hb ho16))
  go_ret
  exact ⟨_, zw, mR_ HO982.out, zI98 HI0.out, zs (IsS98.ge HI0.out), zK HK.out⟩
 rw [if_neg c11] at H
 have c11b0 : (t966 == 2) = false := beq_eq_false_iff_ne.mpr c11
 have c11b1 : (t966 != 2) = true := bne_iff_ne.mpr c11
 have HC17 := aM H
 clear H
 go_enter Try.func77, Try.ntmps77
 go_upto_if 20 with (first | ((with_reducible refine gate_callee (f := 71) rfl ?_); refine goesL_ (some 4) rfl rfl Try.func71 (by kernel_rfl) rfl #[.pointer (some ⟨g, 0, none⟩), .int .i64 24] rfl zm ?_; (with_reducible refine (spec_l01Next.calls g s0_0 s0_1 s0_2 24 t966 t967 t968 w0 _ ?side1 ?side2 A2.out).mono ?_); (case side1 => exact zI98 HI0.out); (case side2 => exact zs (IsS98.ge HI0.out)); rintro e w18 ⟨rfl, hi, hb, hk⟩; refine ⟨_, rfl, ?_⟩; have n0_ := aM (KeepBut.trans (zK HK.out) hk (.inl rfl)); have n1_ := aM (hb); have n2_ := aM (hi); clear HK HB HI0; have HK := n0_; have HB := n1_; have HI0 := n2_; clear n0_ n1_ n2_; (try clear hb); (try clear hb2); (try clear hk); (try clear hi)))
 (try simp only [Act.put, xA, xB, xC])
 go_cut [20] (fun v20 wc => ∃ (kq : Nat) (x20_16 : Bool), v20 = .bool x20_16 ∧ Aside0 (spec_l10Draw.j0 kq x20_16 s0_0 t967 t968 = some (r1, r2, r3)) ∧ Aside0 (kq ≤ k) ∧ Aside0 (IsS98 w0 wc g s0_0 t967 t968) ∧ Aside0 (KeepBut w wc g none) ∧ Aside0 (Below w0.heap.size w0 wc))
 case first =>
  have H := HC17.out
  clear HC17
  by_cases c19 : t966 = 3
  rotate_left
  ·rw [if_neg c19] at H
   have c19b0 : (t966 == 3) = false := beq_eq_false_iff_ne.mpr c19
   have c19b1 : (t966 != 3) = true := bne_iff_ne.mpr c19
   (first | rw [c19b0] | (simp only [i64_w, i32_w]; rw [c19b0]) | skip)
   have H' := aM H
   clear H
   go_wp2
   go_meet
   case rel => exact ⟨_, ((t966 == 4)), zr, H', ⟨by first | omega | exact Nat.le_refl _⟩, ⟨zI98 HI0.out⟩, ⟨zK HK.out⟩, ⟨zs (IsS98.ge HI0.out)⟩⟩
  rw [if_pos c19] at H
  have c19b0 : (t966 == 3) = true := beq_iff_eq.mpr c19
  have c19b1 : (t966 != 3) = false := bne_eq_false_iff_eq.mpr c19
  clear c19
  (first | rw [c19b0] | (simp only [i64_w, i32_w]; rw [c19b0]) | skip)
  have H' := aM H
  clear H
  go_wp2
  go_meet
  case rel => exact ⟨_, ((t966 == 3)), zr, H', ⟨by first | omega | exact Nat.le_refl _⟩, ⟨zI98 HI0.out⟩, ⟨zK HK.out⟩, ⟨zs (IsS98.ge HI0.out)⟩⟩
 case rest =>
  clear HC17
  try clear c1
  try clear c2
  try clear p2
  try clear c3
  try clear c3b0
  try clear c3b1
  try clear p6
  try clear c7
  try clear c7b0
  try clear c7b1
  try clear c10
  try clear c11
  try clear c11b0
  try clear c11b1
  try clear c19
  try clear c19b0
  try clear c19b1
  obtain ⟨kq, x20_16, rfl, HA, HJ16, HI0, HK, HB⟩ := hcut
  cases kq with
  | zero => exact absurd HA.out (by simp [spec_l10Draw.j0])
  | succ kj16 =>
   have H := HA.out
   clear HA
   simp only [spec_l10Draw.j0] at H
   by_cases c20 : x20_16 = true
   ·subst c20
    have H1 : ((spec_l02DrawPoly.f kj16 s0_0 t967 t968 9).bind fun bt983 => (some (bt983.1, bt983.2.1, bt983.2.2))) = some (r1, r2, r3) := by rw [if_pos rfl] at H; exact H
    clear H
    have H := H1
    clear H1
    replace H := Option.bind_eq_some_iff.mp H
    obtain ⟨⟨t983, t986, t987⟩, A210, H⟩ := H
    replace H : (some (t983, t986, t987)) = some (r1, r2, r3) := H
    have A21 := aM A210
    clear A210
    simp only [Option.some.injEq, Prod.mk.injEq] at H
    obtain ⟨rfl, rfl, rfl⟩ := H
    go_wp2_with (first | ((with_reducible refine gate_callee (f := 118) rfl ?_); refine goesL_ (some 24) rfl rfl Try.func118 (by kernel_rfl) rfl #[.pointer (some ⟨g, 0, none⟩), .int .i64 9] rfl zm ?_; (with_reducible refine (spec_l02DrawPoly.calls kj16 g s0_0 t967 t968 9 t983 t986 t987 w0 _ ?side1 ?side2 A21.out).mono ?_); (case side1 => exact zI98 HI0.out); (case side2 => exact zs (IsS98.ge HI0.out)); rintro e w22 ⟨v984, rfl, ho0, hi, hb, hk⟩; refine ⟨_, rfl, ?_⟩; have n0_ := aM (Kd.R_lower ho0 (keep_size (w := w) (g := g) (row := none) (zK HK.out))); have n1_ := aM (KeepBut.trans (zK HK.out) hk (.inl rfl)); have n2_ := aM (hb); have n3_ := aM (hi); clear HK HB HI0; have HO985 := n0_; have HK := n1_; have HB := n2_; have HI0 := n3_; clear n0_ n1_ n2_ n3_; (try clear hb); (try clear hb2); (try clear hk); (try clear hi); (try clear ho0)))
    go_ret
    exact ⟨_, zw, mR_ HO985.out, zI98 HI0.out, zs (IsS98.ge HI0.out), zK HK.out⟩
   replace c20 := Bool.eq_false_iff.mpr c20
   subst c20
   have H1 : ((spec_l10DrawSmall.f kj16 s0_0 t967 t968).bind fun bt988 => (some (bt988.1, bt988.2.1, bt988.2.2))) = some (r1, r2, r3) := by rw [if_neg (show ¬ (false = true) by decide)] at H; exact H
   clear H
   have H := H1
   clear H1
   replace H := Option.bind_eq_some_iff.mp H
   obtain ⟨⟨t988, t991, t992⟩, A230, H⟩ := H
   replace H : (some (t988, t991, t992)) = some (r1, r2, r3) := H
   have A23 := aM A230
   clear A230
   simp only [Option.some.injEq, Prod.mk.injEq] at H
   obtain ⟨rfl, rfl, rfl⟩ := H
   go_wp2_with (first | ((with_reducible refine gate_callee (f := 119) rfl ?_); refine goesL_ (some 26) rfl rfl Try.func119 (by kernel_rfl) rfl #[.pointer (some ⟨g, 0, none⟩)] rfl zm ?_; (with_reducible refine (spec_l10DrawSmall.calls kj16 g s0_0 t967 t968 t988 t991 t992 w0 _ ?side1 ?side2 A23.out).mono ?_); (case side1 => exact zI98 HI0.out); (case side2 => exact zs (IsS98.ge HI0.out)); rintro e w24 ⟨v989, rfl, ho0, hi, hb, hk⟩; refine ⟨_, rfl, ?_⟩; have n0_ := aM (Kd.R_lower ho0 (keep_size (w := w) (g := g) (row := none) (zK HK.out))); have n1_ := aM (KeepBut.trans (zK HK.out) hk (.inl rfl)); have n2_ := aM (hb); have n3_ := aM (hi); clear HK HB HI0; have HO990 := n0_; have HK := n1_; have HB := n2_; have HI0 := n3_; clear n0_ n1_ n2_ n3_; (try clear hb); (try clear hb2); (try clear hk); (try clear hi); (try clear ho0)))
   go_ret
   exact ⟨_, zw, mR_ HO990.out, zI98 HI0.out, zs (IsS98.ge HI0.out), zK HK.out⟩
mutual
def spec_l10Numbers.l0 : Nat → List (S59) → Int → List (S59) → Int → Option (List Int × Bool)
 | 0, _, _, _, _ => none
 | k + 1, x0, x1, x6, x7 => if x7 < (x0.length : Int) then (if 0 ≤ x7 then ((spec_l03Turn.f k ((rd_T59 x0 x7).f0) ((rd_T59 x0 x7).f1) x1).bind fun bt997 => (if x6.length < 8796093022208 then (spec_l10Numbers.l0 k x0 x1 (x6 ++ [(⟨bt997.1, bt997.2⟩ : S59)]) (wrap64 (x7 + 1))) else (none))) else (none)) else ((spec_l02Least.f k x6).bind fun bt1002 => ((spec_l02Move.f k x6 (wrap64 (-bt1002.1)) (wrap64 (-bt1002.2))).bind fun t1004 => (spec_l10Numbers.l1 k x0 t1004 (([] : List Int)) 0)))
def spec_l10Numbers.l1 : Nat → List (S59) → List (S59) → List Int → Int → Option (List Int × Bool)
 | 0, _, _, _, _ => none
 | k + 1, x0, x6, x10, x11 => if x11 < (x6.length : Int) then (if 0 ≤ x11 then ((spec_l02Index.f k x0 ((rd_T59 x6 x11).f0) ((rd_T59 x6 x11).f1)).bind fun t1011 => (if t1011 < 0 then (some (([] : List Int), false)) else (if x10.length < 17592186044416 then (spec_l10Numbers.l1 k x0 x6 (x10 ++ [t1011]) (wrap64 (x11 + 1))) else (none)))) else (none)) else (some (x10, true))
end
def spec_l10Numbers.f (k : Nat) (l0 : List (S59)) (a1 : Int) : Option (List Int × Bool) := spec_l10Numbers.l0 k l0 a1 (([] : List (S59))) 0
theorem spec_l10Numbers.calls (k : Nat) (A0 : Option Addr) (c0 : Nat) (l0 : List (S59)) (a1 : Int) (r1 : List Int) (r2 : Bool) (w : World) (hr0 : Kd.C k59 w A0 l0.length l0) (hc0 : l0.length ≤ c0) (h : spec_l10Numbers.f k l0 a1 = some (r1, r2)) :
  Calls Try.prog 84 #[.slice A0 l0.length c0, .int .i64 a1] w fun e w' => ∃ v0_ : Value, e = .returned (.tuple #[v0_, .bool r2]) ∧ Kd.R (Kd.int .i64) 2 w' w.heap.size (fun _ => True) v0_ r1 ∧ Below w.heap.size w w' := by
 have hu59 := Try.underlying59
 have HR0 := aM hr0
 have HC0 := aM hc0
 clear hr0 hc0
 have HB := aM (Below.refl w.heap.size w)
 have H : (spec_l10Numbers.l0 k l0 a1 (([] : List (S59))) 0) = some (r1, r2) := h
 clear h
 obtain ⟨y993, hy993⟩ : ∃ y_ : List (S59), y_ = (([] : List (S59))) := ⟨_, rfl⟩
 replace H : (spec_l10Numbers.l0 k l0 a1 y993 0) = some (r1, r2) := zy H hy993
 have Ny993 := aM hy993
 clear hy993
 have H' := aM H
 clear H
 go_enter Try.func84, Try.ntmps84
 go_wp2_with (first | ((with_reducible refine gate_dst (N := 13) rfl ?_); refine Kd.R_lit k59 _ 59 ?hg (N := 13) ?hd (xs := ([] : List (S59))) (inner := []) (ok := fun _ => True) (okp := fun _ => True) ?hr ?hp (fun _ hk => hk) trivial (Below.refl _ _) (Nat.le_refl _) (by simp) ?_; (case hd => rfl); (case hg => rfl); (case hr => first | (go_simp; done) | (go_simp; rfl)); (case hp => exact (Reps.none _ _)); intro v994 w3 ho4 hb hg_ hnew_; clear hg_ hnew_; (first | rw [← Ny993.out] at ho4 | (simp only [Int.reduceToNat] at ho4; rw [← Ny993.out] at ho4)); have n0_ := aM (Kd.R_lower ho4 (below_size zb)); have n1_ := aM (below_step zb hb); clear HB; have HO995 := n0_; have HB := n1_; clear n0_ n1_; clear hb ho4))
 go_loopg [6, 7] k (fun kq v6 v7 w' => ∃ (x6_1 : List (S59)) (x7_1 : Int), v7 = .int .i64 x7_1 ∧ Aside0 (spec_l10Numbers.l0 kq l0 a1 x6_1 x7_1 = some (r1, r2)) ∧ Aside0 (kq ≤ k) ∧ Aside0 (Kd.R k59 59 w' w.heap.size (fun _ => True) v6 x6_1) ∧ Aside0 (Below w.heap.size w w'))
 case atStart => exact ⟨(y993), (0), zr, H', ⟨Nat.le_refl _⟩, ⟨mR_ HO995.out⟩, ⟨zb⟩⟩
 case round =>
  clear H'
  try clear p2
  obtain ⟨x6_1, x7_1, rfl, HA, HK1, HO_6, HB⟩ := hrel
  cases gk with
  | zero => exact absurd HA.out (by simp [spec_l10Numbers.l0])
  | succ k1 =>
   have H := HA.out
   clear HA
   simp only [spec_l10Numbers.l0] at H
   by_cases c5 : x7_1 < (l0.length : Int)
   ·rw [if_pos c5] at H
    have c5b0 : decide (x7_1 < (l0.length : Int)) = true := decide_eq_true c5
    clear c5
    by_cases c6 : 0 ≤ x7_1
    rotate_left
    ·rw [if_neg c6] at H
     exact absurd H (by simp)
    rw [if_pos c6] at H
    have c6b0 : decide (0 ≤ x7_1) = true := decide_eq_true c6
    clear c6
    replace H := Option.bind_eq_some_iff.mp H
    obtain ⟨⟨t997, t998⟩, A70, H⟩ := H
    replace H : (if x6_1.length < 8796093022208 then (spec_l10Numbers.l0 k1 l0 a1 (x6_1 ++ [(⟨t997, t998⟩ : S59)]) (wrap64 (x7_1 + 1))) else (none)) = some (r1, r2) := H
    have A7 := aM A70
    clear A70
    by_cases c8 : x6_1.length < 8796093022208
    rotate_left
    ·rw [if_neg c8] at H
     exact absurd H (by simp)
    rw [if_pos c8] at H
    have LMc8 := aM c8
    clear c8
    obtain ⟨y999, hy999⟩ : ∃ y_ : List (S59), y_ = (x6_1 ++ [(⟨t997, t998⟩ : S59)]) := ⟨_, rfl⟩
    replace H : (spec_l10Numbers.l0 k1 l0 a1 y999 (wrap64 (x7_1 + 1))) = some (r1, r2) := zy H hy999
    have Ny999 := aM hy999
    clear hy999
    have H' := aM H
    clear H
    have p996 : 0 ≤ (x7_1 : Int) := of_decide_eq_true za
    have q996 : x7_1 < (l0.length : Int) := of_decide_eq_true za
    obtain ⟨ad996, e996, hx996_0, hx996_1⟩ := at_T59 HR0.out x7_1 p996 q996
    cases e996
    replace hx996_0 := zk HB.out hx996_0
    replace hx996_1 := zk HB.out hx996_1
    replace p996 := eq_true p996
    replace q996 := eq_true q996
    go_wp2_with (first | ((with_reducible refine gate_callee (f := 121) rfl ?_); refine goesL_ (some 26) rfl rfl Try.func121 (by kernel_rfl) rfl #[.agg #[.int .i64 ((rd_T59 l0 x7_1).f0), .int .i64 ((rd_T59 l0 x7_1).f1)], .int .i64 a1] rfl zm ?_; (with_reducible refine (spec_l03Turn.calls k1 ((rd_T59 l0 x7_1).f0) ((rd_T59 l0 x7_1).f1) a1 t997 t998 _ A7.out).mono ?_); rintro e w9 ⟨rfl, hb⟩; refine ⟨_, rfl, ?_⟩; have n0_ := aM (Kd.R_below (mR_ HO_6.out) hb); have n1_ := aM (below_step zb hb); clear HO_6 HB; have HO_6 := n0_; have HB := n1_; clear n0_ n1_; (try clear hb); (try clear hb2); (try clear hk); (try clear hi)) | ((with_reducible refine gate_builtin (b := .append) (xs := #[.tmp 20, .tmp 27]) rfl ?_); at_builtin; refine Kd.R_append k59 (w0 := w) w.heap.size rfl (.tmp 20) (.tmp 27) 24 59 (.agg #[(.int .i64 0), (.int .i64 0)]) 16 rfl Try.underlying24 info59 rfl (by decide) (by omega) u6 x6_1 (⟨t997, t998⟩ : S59) [.int .i64 t997, .int .i64 t998] (fun _ => True) (fun _ => False) rfl rfl ?aP (fun _ hk => hk.elim) ?aF ?aO ?aB ?aS ?aL ?_; (case aP => exact k59_mkM _ _ _ (⟨t997, t998⟩ : S59)); (case aB => exact zb); (case aF => exact (fun _ _ => trivial)); (case aO => exact (mR_ HO_6.out)); (case aS => exact (below_size zb)); (case aL => have := LMc8.out; omega); intro v1000 w10 ho hb hg hat; rw [← Ny999.out] at ho; have n0_ := aM (hb); have n1_ := aM (ho); clear HB HO_6; have HB := n0_; have HO1001 := n1_; clear n0_ n1_; clear ho hb hg hat))
    go_roundg k1
    case measure => have := HK1.out; omega
    case rel => exact ⟨(y999), (wrap64 (x7_1 + 1)), zr, H', ⟨by have := HK1.out; omega⟩, ⟨mR_ HO1001.out⟩, ⟨zb⟩⟩
   rw [if_neg c5] at H
   have c5b0 : decide (x7_1 < (l0.length : Int)) = false := decide_eq_false c5
   clear c5
   replace H := Option.bind_eq_some_iff.mp H
   obtain ⟨⟨t1002, t1003⟩, A110, H⟩ := H
   replace H : ((spec_l02Move.f k1 x6_1 (wrap64 (-t1002)) (wrap64 (-t1003))).bind fun t1004 => (spec_l10Numbers.l1 k1 l0 t1004 (([] : List Int)) 0)) = some (r1, r2) := H
   have A11 := aM A110
   clear A110
   replace H := Option.bind_eq_some_iff.mp H
   obtain ⟨t1004, A120, H⟩ := H
   replace H : (spec_l10Numbers.l1 k1 l0 t1004 (([] : List Int)) 0) = some (r1, r2) := H
   have A12 := aM A120
   clear A120
   obtain ⟨y1007, hy1007⟩ : ∃ y_ : List Int, y_ = (([] : List Int)) := ⟨_, rfl⟩
   replace H : (spec_l10Numbers.l1 k1 l0 t1004 y1007 0) = some (r1, r2) := zy H hy1007
   have Ny1007 := aM hy1007
   clear hy1007
   have H' := aM H
   clear H
   obtain ⟨Ao13, co13, eo13⟩ := Kd.R_slice HO_6.out
   subst eo13
   go_wp2_with (first | ((with_reducible refine gate_callee (f := 92) rfl ?_); refine goesL_ (some 31) rfl rfl Try.func92 (by kernel_rfl) rfl #[.slice Ao13 x6_1.length co13] rfl zm ?_; (with_reducible refine (spec_l02Least.calls k1 _ _ x6_1 t1002 t1003 _ ?side1 ?side2 A11.out).mono ?_); (case side1 => exact zc HO_6.out); (case side2 => exact (Kd.R_reads' HO_6.out).2.1); rintro e w14 ⟨rfl, hb⟩; refine ⟨_, rfl, ?_⟩; have n0_ := aM (Kd.R_below (mR_ HO_6.out) hb); have n1_ := aM (below_step zb hb); clear HO_6 HB; have HO_6 := n0_; have HB := n1_; clear n0_ n1_; (try clear hb); (try clear hb2); (try clear hk); (try clear hi)) | ((with_reducible refine gate_callee (f := 122) rfl ?_); refine goesL_ (some 39) rfl rfl Try.func122 (by kernel_rfl) rfl #[.slice Ao13 x6_1.length co13, .int .i64 (wrap64 (-t1002)), .int .i64 (wrap64 (-t1003))] rfl zm ?_; (with_reducible refine (spec_l02Move.calls k1 _ _ x6_1 (wrap64 (-t1002)) (wrap64 (-t1003)) t1004 _ ?side1 ?side2 A12.out).mono ?_); (case side1 => exact zc HO_6.out); (case side2 => exact (Kd.R_reads' HO_6.out).2.1); rintro e w15 ⟨v1005, rfl, ho0, hb⟩; refine ⟨_, rfl, ?_⟩; have n0_ := aM (Kd.R_elder' (mR_ HO_6.out) (Kd.R_base ho0) hb); have n1_ := aM (Kd.R_lower (Kd.R_new' ho0 (Kd.R_lt (mR_ HO_6.out))) (below_size zb)); have n2_ := aM (below_step zb hb); clear HO_6 HB; have HO_6 := n0_; have HO1006 := n1_; have HB := n2_; clear n0_ n1_ n2_; (try clear hb); (try clear hb2); (try clear hk); (try clear hi); (try clear ho0)) | ((with_reducible refine gate_dst (N := 40) rfl ?_); refine Kd.R_lit (Kd.int .i64) _ 2 ?hg (N := 40) ?hd (xs := ([] : List Int)) (inner := []) (ok := fun _ => True) (okp := fun _ => True) ?hr ?hp (fun _ hk => hk) trivial (Below.refl _ _) (Nat.le_refl _) (by simp) ?_; (case hd => rfl); (case hg => rfl); (case hr => first | (go_simp; done) | (go_simp; rfl)); (case hp => exact (Reps.none _ _)); intro v1008 w16 ho17 hb hg_ hnew_; clear hg_ hnew_; (first | rw [← Ny1007.out] at ho17 | (simp only [Int.reduceToNat] at ho17; rw [← Ny1007.out] at ho17)); have n0_ := aM (Kd.R_below (mR_ HO_6.out) hb); have n1_ := aM (Kd.R_below (mR_ HO1006.out) hb); have n2_ := aM (Kd.R_lower ho17 (below_size zb)); have n3_ := aM (below_step zb hb); clear HO_6 HO1006 HB; have HO_6 := n0_; have HO1006 := n1_; have HO1009 := n2_; have HB := n3_; clear n0_ n1_ n2_ n3_; clear hb ho17))
   go_loopg [10, 11] k1 (fun kq v10 v11 w' => ∃ (x10_2 : List Int) (x11_2 : Int), v11 = .int .i64 x11_2 ∧ Aside0 (spec_l10Numbers.l1 kq l0 t1004 x10_2 x11_2 = some (r1, r2)) ∧ Aside0 (kq ≤ k1) ∧ Aside0 (Kd.R k59 59 w' w.heap.size (fun _ => True) v1005 t1004) ∧ Aside0 (Kd.R (Kd.int .i64) 2 w' w.heap.size (fun _ => True) v10 x10_2) ∧ Aside0 (Below w.heap.size w w'))
   case atStart => exact ⟨(y1007), (0), zr, H', ⟨Nat.le_refl _⟩, ⟨zd0 HO1006.out⟩, ⟨mR_ HO1009.out⟩, ⟨zb⟩⟩
   case round =>
    clear H'
    try clear c1
    try clear p2
    try clear c5
    try clear c5b0
    try clear c6
    try clear c6b0
    try clear p6
    try clear c8
    try clear c9
    try clear p9
    try clear q9
    try clear hx9
    try clear c12
    try clear hx996_0
    try clear hx996_1
    try clear p2
    try clear p996
    try clear q996
    obtain ⟨x10_2, x11_2, rfl, HA, HK2, HO_6, HO_10, HB⟩ := hrel
    cases gk with
    | zero => exact absurd HA.out (by simp [spec_l10Numbers.l1])
    | succ k2 =>
     have H := HA.out
     clear HA
     simp only [spec_l10Numbers.l1] at H
     by_cases c18 : x11_2 < (t1004.length : Int)
     rotate_left
     ·rw [if_neg c18] at H
      have c18b0 : decide (x11_2 < (t1004.length : Int)) = false := decide_eq_false c18
      clear c18
      simp only [Option.some.injEq, Prod.mk.injEq] at H
      obtain ⟨rfl, rfl⟩ := H
      obtain ⟨Ao28, co28, eo28⟩ := Kd.R_slice HO_6.out
      subst eo28
      go_wp2
      go_ret2
      exact ⟨_, zw, mR_ HO_10.out, zb⟩
     rw [if_pos c18] at H
     have c18b0 : decide (x11_2 < (t1004.length : Int)) = true := decide_eq_true c18
     clear c18
     by_cases c19 : 0 ≤ x11_2
     rotate_left
     ·rw [if_neg c19] at H
      exact absurd H (by simp)
     rw [if_pos c19] at H
     have c19b0 : decide (0 ≤ x11_2) = true := decide_eq_true c19
     clear c19
     replace H := Option.bind_eq_some_iff.mp H
     obtain ⟨t1011, A200, H⟩ := H
     replace H : (if t1011 < 0 then (some (([] : List Int), false)) else (if x10_2.length < 17592186044416 then (spec_l10Numbers.l1 k2 l0 t1004 (x10_2 ++ [t1011]) (wrap64 (x11_2 + 1))) else (none))) = some (r1, r2) := H
     have A20 := aM A200
     clear A200
     by_cases c21 : t1011 < 0
     ·rw [if_pos c21] at H
      have c21b0 : decide (t1011 < 0) = true := decide_eq_true c21
      clear c21
      simp only [Option.some.injEq, Prod.mk.injEq] at H
      obtain ⟨rfl, rfl⟩ := H
      obtain ⟨Ao22, co22, eo22⟩ := Kd.R_slice HO_6.out
      subst eo22
      have p1010 : 0 ≤ (x11_2 : Int) := of_decide_eq_true za
      have q1010 : x11_2 < (t1004.length : Int) := of_decide_eq_true za
      obtain ⟨ad1010, e1010, hx1010_0, hx1010_1⟩ := at_T59 (Kd.R_reads' HO_6.out).2.2 x11_2 p1010 q1010
      cases e1010
      replace p1010 := eq_true p1010
      replace q1010 := eq_true q1010
      go_wp2_with (first | ((with_reducible refine gate_callee (f := 67) rfl ?_); refine goesL_ (some 52) rfl rfl Try.func67 (by kernel_rfl) rfl #[.slice A0 l0.length c0, .agg #[.int .i64 ((rd_T59 t1004 x11_2).f0), .int .i64 ((rd_T59 t1004 x11_2).f1)]] rfl zm ?_; (with_reducible refine (spec_l02Index.calls k2 _ _ l0 ((rd_T59 t1004 x11_2).f0) ((rd_T59 t1004 x11_2).f1) t1011 _ ?side1 ?side2 A20.out).mono ?_); (case side1 => repeat (first | exact (Kd.C_below HR0.out HB.out) | (with_reducible refine Kd.C_alloc ?_ _) | (with_reducible refine Kd.C_drewN ?_ _) | (with_reducible refine Kd.C_drew ?_))); (case side2 => exact HC0.out); rintro e w23 ⟨rfl, hb⟩; refine ⟨_, rfl, ?_⟩; have n0_ := aM (Kd.R_below (mR_ HO_6.out) hb); have n1_ := aM (Kd.R_below (mR_ HO_10.out) hb); have n2_ := aM (below_step zb hb); clear HO_6 HO_10 HB; have HO_6 := n0_; have HO_10 := n1_; have HB := n2_; clear n0_ n1_ n2_; (try clear hb); (try clear hb2); (try clear hk); (try clear hi)))
      go_ret2
      exact ⟨_, zw, by first | exact Kd.R_nil _ _ _ _ _ | exact Kd.N_nil _ _ _ _ _ | exact Kd.V_nil _ _ _ _ _ | exact Kd.Q_nil _ _ _ _ _ | exact Kd.S_nil _ _ _ _ _, zb⟩
     rw [if_neg c21] at H
     have c21b0 : decide (t1011 < 0) = false := decide_eq_false c21
     clear c21
     by_cases c24 : x10_2.length < 17592186044416
     rotate_left
     ·rw [if_neg c24] at H
      exact absurd H (by simp)
     rw [if_pos c24] at H
     have LMc24 := aM c24
     clear c24
     obtain ⟨y1012, hy1012⟩ : ∃ y_ : List Int, y_ = (x10_2 ++ [t1011]) := ⟨_, rfl⟩
     replace H : (spec_l10Numbers.l1 k2 l0 t1004 y1012 (wrap64 (x11_2 + 1))) = some (r1, r2) := zy H hy1012
     have Ny1012 := aM hy1012
     clear hy1012
     have H' := aM H
     clear H
     obtain ⟨Ao25, co25, eo25⟩ := Kd.R_slice HO_6.out
     subst eo25
     have p1010 : 0 ≤ (x11_2 : Int) := of_decide_eq_true za
     have q1010 : x11_2 < (t1004.length : Int) := of_decide_eq_true za
     obtain ⟨ad1010, e1010, hx1010_0, hx1010_1⟩ := at_T59 (Kd.R_reads' HO_6.out).2.2 x11_2 p1010 q1010
     cases e1010
     replace p1010 := eq_true p1010
     replace q1010 := eq_true q1010
     go_wp2_with (first | ((with_reducible refine gate_callee (f := 67) rfl ?_); refine goesL_ (some 52) rfl rfl Try.func67 (by kernel_rfl) rfl #[.slice A0 l0.length c0, .agg #[.int .i64 ((rd_T59 t1004 x11_2).f0), .int .i64 ((rd_T59 t1004 x11_2).f1)]] rfl zm ?_; (with_reducible refine (spec_l02Index.calls k2 _ _ l0 ((rd_T59 t1004 x11_2).f0) ((rd_T59 t1004 x11_2).f1) t1011 _ ?side1 ?side2 A20.out).mono ?_); (case side1 => repeat (first | exact (Kd.C_below HR0.out HB.out) | (with_reducible refine Kd.C_alloc ?_ _) | (with_reducible refine Kd.C_drewN ?_ _) | (with_reducible refine Kd.C_drew ?_))); (case side2 => exact HC0.out); rintro e w26 ⟨rfl, hb⟩; refine ⟨_, rfl, ?_⟩; have n0_ := aM (Kd.R_below (mR_ HO_6.out) hb); have n1_ := aM (Kd.R_below (mR_ HO_10.out) hb); have n2_ := aM (below_step zb hb); clear HO_6 HO_10 HB; have HO_6 := n0_; have HO_10 := n1_; have HB := n2_; clear n0_ n1_ n2_; (try clear hb); (try clear hb2); (try clear hk); (try clear hi)) | ((with_reducible refine gate_builtin (b := .append) (xs := #[.tmp 55, .tmp 57]) rfl ?_); at_builtin; refine Kd.R_append (Kd.int .i64) (w0 := w) w.heap.size rfl (.tmp 55) (.tmp 57) 41 2 (.int .i64 0) 8 rfl Try.underlying41 info2 rfl (by decide) (by omega) u10 x10_2 t1011 [.int .i64 t1011] (fun _ => True) (fun _ => False) rfl rfl ?aP (fun _ hk => hk.elim) ?aF ?aO ?aB ?aS ?aL ?_; (case aP => exact rfl); (case aB => exact zb); (case aF => exact (fun _ _ => trivial)); (case aO => exact (mR_ HO_10.out)); (case aS => exact (below_size zb)); (case aL => have := LMc24.out; omega); intro v1013 w27 ho hb hg hat; rw [← Ny1012.out] at ho; have n0_ := aM (Kd.R_over' (mR_ HO_6.out) (Kd.R_typed (mR_ HO_10.out)) (by decide) hg); have n1_ := aM (hb); have n2_ := aM (ho); clear HO_6 HB HO_10; have HO_6 := n0_; have HB := n1_; have HO1014 := n2_; clear n0_ n1_ n2_; clear ho hb hg hat))
     go_roundg k2
     case measure => have := HK1.out; have := HK2.out; omega
     case rel => exact ⟨(y1012), (wrap64 (x11_2 + 1)), zr, H', ⟨by have := HK1.out; have := HK2.out; omega⟩, ⟨mR_ HO_6.out⟩, ⟨mR_ HO1014.out⟩, ⟨zb⟩⟩
def spec_l10Symmetries.l0 : Nat → List (S59) → List Int → Int → Option (List Int)
 | 0, _, _, _ => none
 | k + 1, x0, x3, x4 => if x4 < 8 then ((spec_l10Numbers.f k x0 x4).bind fun bt1018 => (if bt1018.2 = true then (if x3.length < 17592186044416 then (spec_l10Symmetries.l0 k x0 (x3 ++ [x4]) (wrap64 (x4 + 1))) else (none)) else (spec_l10Symmetries.l0 k x0 x3 (wrap64 (x4 + 1))))) else (some x3)
def spec_l10Symmetries.f (k : Nat) (l0 : List (S59)) : Option (List Int) := spec_l10Symmetries.l0 k l0 (([] : List Int)) 0
theorem spec_l10Symmetries.calls (k : Nat) (A0 : Option Addr) (c0 : Nat) (l0 : List (S59)) (r : List Int) (w : World) (hr0 : Kd.C k59 w A0 l0.length l0) (hc0 : l0.length ≤ c0) (h : spec_l10Symmetries.f k l0 = some r) :
  Calls Try.prog 79 #[.slice A0 l0.length c0] w fun e w' => ∃ v0_ : Value, e = .returned (v0_) ∧ Kd.R (Kd.int .i64) 2 w' w.heap.size (fun _ => True) v0_ r ∧ Below w.heap.size w w' := by
 have HR0 := aM hr0
 have HC0 := aM hc0
 clear hr0 hc0
 have HB := aM (Below.refl w.heap.size w)
 have H : (spec_l10Symmetries.l0 k l0 (([] : List Int)) 0) = some r := h
 clear h
 obtain ⟨y1015, hy1015⟩ : ∃ y_ : List Int, y_ = (([] : List Int)) := ⟨_, rfl⟩
 replace H : (spec_l10Symmetries.l0 k l0 y1015 0) = some r := zy H hy1015
 have Ny1015 := aM hy1015
 clear hy1015
 have H' := aM H
 clear H
 go_enter Try.func79, Try.ntmps79
 go_wp2_with (first | ((with_reducible refine gate_dst (N := 7) rfl ?_); refine Kd.R_lit (Kd.int .i64) _ 2 ?hg (N := 7) ?hd (xs := ([] : List Int)) (inner := []) (ok := fun _ => True) (okp := fun _ => True) ?hr ?hp (fun _ hk => hk) trivial (Below.refl _ _) (Nat.le_refl _) (by simp) ?_; (case hd => rfl); (case hg => rfl); (case hr => first | (go_simp; done) | (go_simp; rfl)); (case hp => exact (Reps.none _ _)); intro v1016 w2 ho3 hb hg_ hnew_; clear hg_ hnew_; (first | rw [← Ny1015.out] at ho3 | (simp only [Int.reduceToNat] at ho3; rw [← Ny1015.out] at ho3)); have n0_ := aM (Kd.R_lower ho3 (below_size zb)); have n1_ := aM (below_step zb hb); clear HB; have HO1017 := n0_; have HB := n1_; clear n0_ n1_; clear hb ho3))
 go_loopg [3, 4] k (fun kq v3 v4 w' => ∃ (x3_1 : List Int) (x4_1 : Int), v4 = .int .i64 x4_1 ∧ Aside0 (spec_l10Symmetries.l0 kq l0 x3_1 x4_1 = some r) ∧ Aside0 (kq ≤ k) ∧ Aside0 (Kd.R (Kd.int .i64) 2 w' w.heap.size (fun _ => True) v3 x3_1) ∧ Aside0 (Below w.heap.size w w'))
 case atStart => exact ⟨(y1015), (0), zr, H', ⟨Nat.le_refl _⟩, ⟨mR_ HO1017.out⟩, ⟨zb⟩⟩
 case round =>
  clear H'
  try clear p2
  obtain ⟨x3_1, x4_1, rfl, HA, HK1, HO_3, HB⟩ := hrel
  cases gk with
  | zero => exact absurd HA.out (by simp [spec_l10Symmetries.l0])
  | succ k1 =>
   have H := HA.out
   clear HA
   simp only [spec_l10Symmetries.l0] at H
   by_cases c4 : x4_1 < 8
   rotate_left
   ·rw [if_neg c4] at H
    have c4b0 : decide (x4_1 < 8) = false := decide_eq_false c4
    clear c4
    obtain rfl := Option.some.inj H
    go_wp2
    go_ret
    exact ⟨_, zw, mR_ HO_3.out, zb⟩
   rw [if_pos c4] at H
   have c4b0 : decide (x4_1 < 8) = true := decide_eq_true c4
   clear c4
   replace H := Option.bind_eq_some_iff.mp H
   obtain ⟨⟨t1018, t1019⟩, A50, H⟩ := H
   replace H : (if t1019 = true then (if x3_1.length < 17592186044416 then (spec_l10Symmetries.l0 k1 l0 (x3_1 ++ [x4_1]) (wrap64 (x4_1 + 1))) else (none)) else (spec_l10Symmetries.l0 k1 l0 x3_1 (wrap64 (x4_1 + 1)))) = some r := H
   have A5 := aM A50
   clear A50
   by_cases c6 : t1019 = true
   rotate_left
   ·replace c6 := Bool.eq_false_iff.mpr c6
    subst c6
    have H1 : (spec_l10Symmetries.l0 k1 l0 x3_1 (wrap64 (x4_1 + 1))) = some r := by rw [if_neg (show ¬ (false = true) by decide)] at H; exact H
    clear H
    have H := H1
    clear H1
    have H' := aM H
    clear H
    go_wp2_with (first | ((with_reducible refine gate_callee (f := 84) rfl ?_); refine goesL_ (some 15) rfl rfl Try.func84 (by kernel_rfl) rfl #[.slice A0 l0.length c0, .int .i64 x4_1] rfl zm ?_; (with_reducible refine (spec_l10Numbers.calls k1 _ _ l0 x4_1 t1018 false _ ?side1 ?side2 A5.out).mono ?_); (case side1 => repeat (first | exact (Kd.C_below HR0.out HB.out) | (with_reducible refine Kd.C_alloc ?_ _) | (with_reducible refine Kd.C_drewN ?_ _) | (with_reducible refine Kd.C_drew ?_))); (case side2 => exact HC0.out); rintro e w10 ⟨v1020, rfl, ho0, hb⟩; refine ⟨_, rfl, ?_⟩; have n0_ := aM (Kd.R_elder' (mR_ HO_3.out) (Kd.R_base ho0) hb); have n1_ := aM (Kd.R_lower (Kd.R_new' ho0 (Kd.R_lt (mR_ HO_3.out))) (below_size zb)); have n2_ := aM (below_step zb hb); clear HO_3 HB; have HO_3 := n0_; have HO1021 := n1_; have HB := n2_; clear n0_ n1_ n2_; (try clear hb); (try clear hb2); (try clear hk); (try clear hi); (try clear ho0)))
    go_roundg k1
    case measure => have := HK1.out; omega
    case rel => exact ⟨(x3_1), (wrap64 (x4_1 + 1)), zr, H', ⟨by have := HK1.out; omega⟩, ⟨zd0 HO_3.out⟩, ⟨zb⟩⟩
   subst c6
   have H1 : (if x3_1.length < 17592186044416 then (spec_l10Symmetries.l0 k1 l0 (x3_1 ++ [x4_1]) (wrap64 (x4_1 + 1))) else (none)) = some r := by rw [if_pos rfl] at H; exact H
   clear H
   have H := H1
   clear H1
   by_cases c7 : x3_1.length < 17592186044416
   rotate_left
   ·rw [if_neg c7] at H
    exact absurd H (by simp)
   rw [if_pos c7] at H
   have LMc7 := aM c7
   clear c7
   obtain ⟨y1022, hy1022⟩ : ∃ y_ : List Int, y_ = (x3_1 ++ [x4_1]) := ⟨_, rfl⟩
   replace H : (spec_l10Symmetries.l0 k1 l0 y1022 (wrap64 (x4_1 + 1))) = some r := zy H hy1022
   have Ny1022 := aM hy1022
   clear hy1022
   have H' := aM H
   clear H
   go_wp2_with (first | ((with_reducible refine gate_callee (f := 84) rfl ?_); refine goesL_ (some 15) rfl rfl Try.func84 (by kernel_rfl) rfl #[.slice A0 l0.length c0, .int .i64 x4_1] rfl zm ?_; (with_reducible refine (spec_l10Numbers.calls k1 _ _ l0 x4_1 t1018 true _ ?side1 ?side2 A5.out).mono ?_); (case side1 => repeat (first | exact (Kd.C_below HR0.out HB.out) | (with_reducible refine Kd.C_alloc ?_ _) | (with_reducible refine Kd.C_drewN ?_ _) | (with_reducible refine Kd.C_drew ?_))); (case side2 => exact HC0.out); rintro e w8 ⟨v1020, rfl, ho0, hb⟩; refine ⟨_, rfl, ?_⟩; have n0_ := aM (Kd.R_elder' (mR_ HO_3.out) (Kd.R_base ho0) hb); have n1_ := aM (Kd.R_lower (Kd.R_new' ho0 (Kd.R_lt (mR_ HO_3.out))) (below_size zb)); have n2_ := aM (below_step zb hb); clear HO_3 HB; have HO_3 := n0_; have HO1021 := n1_; have HB := n2_; clear n0_ n1_ n2_; (try clear hb); (try clear hb2); (try clear hk); (try clear hi); (try clear ho0)) | ((with_reducible refine gate_builtin (b := .append) (xs := #[.tmp 19, .tmp 21]) rfl ?_); at_builtin; refine Kd.R_append (Kd.int .i64) (w0 := w) w.heap.size rfl (.tmp 19) (.tmp 21) 41 2 (.int .i64 0) 8 rfl Try.underlying41 info2 rfl (by decide) (by omega) u3 x3_1 x4_1 [.int .i64 x4_1] (fun k_ => some k_ ≠ (v1020 : Value).ownBlock) (fun _ => False) rfl rfl ?aP (fun _ hk => hk.elim) ?aF ?aO ?aB ?aS ?aL ?_; (case aP => exact rfl); (case aB => exact zb); (case aF => exact (fun k_ hk => Kd.fresh' (Kd.R_lt (mR_ HO1021.out)) k_ hk)); (case aO => exact (zd1 HO_3.out)); (case aS => exact (below_size zb)); (case aL => have := LMc7.out; omega); intro v1023 w9 ho hb hg hat; rw [← Ny1022.out] at ho; have n0_ := aM (Kd.R_after (ok := (fun _ => True)) (mR_ HO1021.out) hg hat); have n1_ := aM (hb); have n2_ := aM (ho); clear HO1021 HB HO_3; have HO1021 := n0_; have HB := n1_; have HO1024 := n2_; clear n0_ n1_ n2_; clear ho hb hg hat))
   go_roundg k1
   case measure => have := HK1.out; omega
   case rel => exact ⟨(y1022), (wrap64 (x4_1 + 1)), zr, H', ⟨by have := HK1.out; omega⟩, ⟨zd0 HO1024.out⟩, ⟨zb⟩⟩
def spec_l03DrawTurn.f (s0_0 : List Int) (s0_1 : Int) (s0_2 : Int) : Option (Int × Int × Int) := (spec_l01Next.f s0_0 s0_1 s0_2 16).bind fun bt1025 => (if bt1025.1 = 0 then ((some (([(-1), 8] : List Int) : List Int)).bind fun y1028 => ((spec_l01Next.f s0_0 bt1025.2.1 bt1025.2.2 2).bind fun bt1031 => (if 0 ≤ bt1031.1 then (if bt1031.1 < (y1028.length : Int) then (some (rd y1028 bt1031.1, bt1031.2.1, bt1031.2.2)) else (none)) else (none)))) else ((spec_l01Next.f s0_0 bt1025.2.1 bt1025.2.2 8).bind fun bt1035 => (some (bt1035.1, bt1035.2.1, bt1035.2.2))))
theorem spec_l03DrawTurn.calls (g : Nat) (s0_0 : List Int) (s0_1 : Int) (s0_2 : Int) (r1 : Int) (r2 : Int) (r3 : Int) (w0 w : World) (hI : IsS98 w0 w g s0_0 s0_1 s0_2) (hB : Below w0.heap.size w0 w) (h : spec_l03DrawTurn.f s0_0 s0_1 s0_2 = some (r1, r2, r3)) :
  Calls Try.prog 80 #[.pointer (some ⟨g, 0, none⟩)] w fun e w' => e = .returned (.int .i64 r1) ∧ IsS98 w0 w' g s0_0 r2 r3 ∧ Below w0.heap.size w0 w' ∧ KeepBut w w' g none := by
 have HI0 := aM hI
 have HK := aM (KeepBut.refl w g none)
 have HL := aM hB.size
 clear hI
 have HW0 := aM hB.size
 have HB := aM hB
 clear hB
 have H : ((spec_l01Next.f s0_0 s0_1 s0_2 16).bind fun bt1025 => (if bt1025.1 = 0 then ((some (([(-1), 8] : List Int) : List Int)).bind fun y1028 => ((spec_l01Next.f s0_0 bt1025.2.1 bt1025.2.2 2).bind fun bt1031 => (if 0 ≤ bt1031.1 then (if bt1031.1 < (y1028.length : Int) then (some (rd y1028 bt1031.1, bt1031.2.1, bt1031.2.2)) else (none)) else (none)))) else ((spec_l01Next.f s0_0 bt1025.2.1 bt1025.2.2 8).bind fun bt1035 => (some (bt1035.1, bt1035.2.1, bt1035.2.2))))) = some (r1, r2, r3) := h
 clear h
 replace H := Option.bind_eq_some_iff.mp H
 obtain ⟨⟨t1025, t1026, t1027⟩, A20, H⟩ := H
 replace H : (if t1025 = 0 then ((some (([(-1), 8] : List Int) : List Int)).bind fun y1028 => ((spec_l01Next.f s0_0 t1026 t1027 2).bind fun bt1031 => (if 0 ≤ bt1031.1 then (if bt1031.1 < (y1028.length : Int) then (some (rd y1028 bt1031.1, bt1031.2.1, bt1031.2.2)) else (none)) else (none)))) else ((spec_l01Next.f s0_0 t1026 t1027 8).bind fun bt1035 => (some (bt1035.1, bt1035.2.1, bt1035.2.2)))) = some (r1, r2, r3) := H
 have A2 := aM A20
 clear A20
 by_cases c3 : t1025 = 0
 rotate_left
 ·rw [if_neg c3] at H
  have c3b0 : (t1025 == 0) = false := beq_eq_false_iff_ne.mpr c3
  have c3b1 : (t1025 != 0) = true := bne_iff_ne.mpr c3
  replace H := Option.bind_eq_some_iff.mp H
  obtain ⟨⟨t1035, t1036, t1037⟩, A120, H⟩ := H
  replace H : (some (t1035, t1036, t1037)) = some (r1, r2, r3) := H
  have A12 := aM A120
  clear A120
  simp only [Option.some.injEq, Prod.mk.injEq] at H
  obtain ⟨rfl, rfl, rfl⟩ := H
  go_enter Try.func80, Try.ntmps80
  go_wp2_with (first | ((with_reducible refine gate_callee (f := 71) rfl ?_); refine goesL_ (some 4) rfl rfl Try.func71 (by kernel_rfl) rfl #[.pointer (some ⟨g, 0, none⟩), .int .i64 16] rfl zm ?_; (with_reducible refine (spec_l01Next.calls g s0_0 s0_1 s0_2 16 t1025 t1026 t1027 w0 _ ?side1 ?side2 A2.out).mono ?_); (case side1 => exact zI98 HI0.out); (case side2 => exact zs (IsS98.ge HI0.out)); rintro e w13 ⟨rfl, hi, hb, hk⟩; refine ⟨_, rfl, ?_⟩; have n0_ := aM (KeepBut.trans (zK HK.out) hk (.inl rfl)); have n1_ := aM (hb); have n2_ := aM (hi); clear HK HB HI0; have HK := n0_; have HB := n1_; have HI0 := n2_; clear n0_ n1_ n2_; (try clear hb); (try clear hb2); (try clear hk); (try clear hi)) | ((with_reducible refine gate_callee (f := 71) rfl ?_); refine goesL_ (some 12) rfl rfl Try.func71 (by kernel_rfl) rfl #[.pointer (some ⟨g, 0, none⟩), .int .i64 8] rfl zm ?_; (with_reducible refine (spec_l01Next.calls g s0_0 t1026 t1027 8 t1035 t1036 t1037 w0 _ ?side1 ?side2 A12.out).mono ?_); (case side1 => exact zI98 HI0.out); (case side2 => exact zs (IsS98.ge HI0.out)); rintro e w14 ⟨rfl, hi, hb, hk⟩; refine ⟨_, rfl, ?_⟩; have n0_ := aM (KeepBut.trans (zK HK.out) hk (.inl rfl)); have n1_ := aM (hb); have n2_ := aM (hi); clear HK HB HI0; have HK := n0_; have HB := n1_; have HI0 := n2_; clear n0_ n1_ n2_; (try clear hb); (try clear hb2); (try clear hk); (try clear hi)))
  go_ret
  exact ⟨zw, zI98 HI0.out, zs (IsS98.ge HI0.out), zK HK.out⟩
 rw [if_pos c3] at H
 have c3b0 : (t1025 == 0) = true := beq_iff_eq.mpr c3
 have c3b1 : (t1025 != 0) = false := bne_eq_false_iff_eq.mpr c3
 clear c3
 obtain ⟨y1028, hy1028⟩ : ∃ y_ : List Int, y_ = (([(-1), 8] : List Int)) := ⟨_, rfl⟩
 replace H : ((spec_l01Next.f s0_0 t1026 t1027 2).bind fun bt1031 => (if 0 ≤ bt1031.1 then (if bt1031.1 < (y1028.length : Int) then (some (rd y1028 bt1031.1, bt1031.2.1, bt1031.2.2)) else (none)) else (none))) = some (r1, r2, r3) := zy H hy1028
 have Ny1028 := aM hy1028
 clear hy1028
 replace H := Option.bind_eq_some_iff.mp H
 obtain ⟨⟨t1031, t1032, t1033⟩, A40, H⟩ := H
 replace H : (if 0 ≤ t1031 then (if t1031 < (y1028.length : Int) then (some (rd y1028 t1031, t1032, t1033)) else (none)) else (none)) = some (r1, r2, r3) := H
 have A4 := aM A40
 clear A40
 by_cases c5 : 0 ≤ t1031
 rotate_left
 ·rw [if_neg c5] at H
  exact absurd H (by simp)
 rw [if_pos c5] at H
 have c5b0 : decide (0 ≤ t1031) = true := decide_eq_true c5
 clear c5
 by_cases c6 : t1031 < (y1028.length : Int)
 rotate_left
 ·rw [if_neg c6] at H
  exact absurd H (by simp)
 rw [if_pos c6] at H
 have c6b0 : decide (t1031 < (y1028.length : Int)) = true := decide_eq_true c6
 clear c6
 simp only [Option.some.injEq, Prod.mk.injEq] at H
 obtain ⟨rfl, rfl, rfl⟩ := H
 go_enter Try.func80, Try.ntmps80
 go_wp2_with (first | ((with_reducible refine gate_callee (f := 71) rfl ?_); refine goesL_ (some 4) rfl rfl Try.func71 (by kernel_rfl) rfl #[.pointer (some ⟨g, 0, none⟩), .int .i64 16] rfl zm ?_; (with_reducible refine (spec_l01Next.calls g s0_0 s0_1 s0_2 16 t1025 t1026 t1027 w0 _ ?side1 ?side2 A2.out).mono ?_); (case side1 => exact zI98 HI0.out); (case side2 => exact zs (IsS98.ge HI0.out)); rintro e w7 ⟨rfl, hi, hb, hk⟩; refine ⟨_, rfl, ?_⟩; have n0_ := aM (KeepBut.trans (zK HK.out) hk (.inl rfl)); have n1_ := aM (hb); have n2_ := aM (hi); clear HK HB HI0; have HK := n0_; have HB := n1_; have HI0 := n2_; clear n0_ n1_ n2_; (try clear hb); (try clear hb2); (try clear hk); (try clear hi)) | ((with_reducible refine gate_dst (N := 6) rfl ?_); refine Kd.R_lit (Kd.int .i64) _ 2 ?hg (N := 6) ?hd (xs := ([(-1), 8] : List Int)) (inner := [.int .i64 (-1), .int .i64 8]) (ok := fun _ => True) (okp := fun _ => True) ?hr ?hp (fun _ hk => hk) trivial (Below.refl _ _) (Nat.le_refl _) (by simp) ?_; (case hd => rfl); (case hg => rfl); (case hr => first | (go_simp; done) | (go_simp; rfl)); (case hp => exact (Reps.one (show Kd.M (Kd.int .i64) _ _ _ (-1) [.int .i64 (-1)] from rfl) (Reps.one (show Kd.M (Kd.int .i64) _ _ _ 8 [.int .i64 8] from rfl) (Reps.none _ _)))); intro v1029 w8 ho9 hb hg_ hnew_; clear hg_ hnew_; (first | rw [← Ny1028.out] at ho9 | (simp only [Int.reduceToNat] at ho9; rw [← Ny1028.out] at ho9)); have n0_ := aM (Kd.R_lower ho9 (keep_size (w := w) (g := g) (row := none) (zK HK.out))); have n1_ := aM (IsS98.below (zI98 HI0.out) hb); have n2_ := aM (KeepBut.trans (zK HK.out) (KeepBut.of_below hb g none) (.inl rfl)); have n3_ := aM (below_step (zs (IsS98.ge HI0.out)) hb); clear HI0 HK HB; have HO1030 := n0_; have HI0 := n1_; have HK := n2_; have HB := n3_; clear n0_ n1_ n2_ n3_; clear hb ho9) | ((with_reducible refine gate_callee (f := 71) rfl ?_); refine goesL_ (some 8) rfl rfl Try.func71 (by kernel_rfl) rfl #[.pointer (some ⟨g, 0, none⟩), .int .i64 2] rfl zm ?_; (with_reducible refine (spec_l01Next.calls g s0_0 t1026 t1027 2 t1031 t1032 t1033 w0 _ ?side1 ?side2 A4.out).mono ?_); (case side1 => exact zI98 HI0.out); (case side2 => exact zs (IsS98.ge HI0.out)); rintro e w10 ⟨rfl, hi, hb, hk⟩; refine ⟨_, rfl, ?_⟩; have n0_ := aM (Kd.R_mono (Kd.R_keep (IsS98.apart (show IsS98 w0 _ g s0_0 t1026 t1027 from zI98 HI0.out) (mR_ HO1030.out) (by decide)) hk (fun _ h => h.2)) (fun _ h => h.1)); have n1_ := aM (KeepBut.trans (zK HK.out) hk (.inl rfl)); have n2_ := aM (hb); have n3_ := aM (hi); clear HO1030 HK HB HI0; have HO1030 := n0_; have HK := n1_; have HB := n2_; have HI0 := n3_; clear n0_ n1_ n2_ n3_; (try clear hb); (try clear hb2); (try clear hk); (try clear hi); obtain ⟨Ao11, co11, eo11⟩ := Kd.R_slice HO1030.out; subst eo11; have p1034 : 0 ≤ (t1031 : Int) := of_decide_eq_true za; have q1034 : t1031 < (y1028.length : Int) := of_decide_eq_true za; obtain ⟨ad1034, e1034, hx1034_0⟩ := Kd.at_int (Kd.R_reads' HO1030.out).2.2 t1031 p1034 q1034; cases e1034; replace p1034 := eq_true p1034; replace q1034 := eq_true q1034))
 go_ret
 exact ⟨zw, zI98 HI0.out, zs (IsS98.ge HI0.out), zK HK.out⟩
def spec_DrawTurnNumbers.j0 : Nat → List (S59) → Bool → List Int → Int → Int → Option ((List (S59)) × Int)
 | 0, _, _, _, _, _ => none
 | k + 1, x5, x17, x1042000, x1042001, x1042002 => if x17 = true then ((spec_l10Symmetries.f k x5).bind fun t1051 => ((spec_l01Next.f x1042000 x1042001 x1042002 (t1051.length : Int)).bind fun bt1054 => (if 0 ≤ bt1054.1 then (if bt1054.1 < (t1051.length : Int) then (some (x5, rd t1051 bt1054.1)) else (none)) else (none)))) else ((spec_l03DrawTurn.f x1042000 x1042001 x1042002).bind fun bt1058 => (some (x5, bt1058.1)))
def spec_DrawTurnNumbers.f (k : Nat) (l0 : List Int) : Option ((List (S59)) × Int) := (spec_l01From.f k l0).bind fun bt1038 => ((spec_l10Draw.f k bt1038.1 bt1038.2.1 bt1038.2.2).bind fun bt1042 => ((spec_IsRegion.f k bt1042.1).bind fun t1047 => (if t1047 = true then ((spec_l01Next.f bt1038.1 bt1042.2.1 bt1042.2.2 3).bind fun bt1048 => (spec_DrawTurnNumbers.j0 k bt1042.1 (decide (bt1048.1 > 0)) bt1038.1 bt1048.2.1 bt1048.2.2)) else (spec_DrawTurnNumbers.j0 k bt1042.1 false bt1038.1 bt1042.2.1 bt1042.2.2))))
def spec_DrawTurnNumbers.T5 : Bool × List (List Nat × List Nat) := (true, [([], []), ([], []), ([], []), ([], []), ([3], [3]), ([2, 4], [2, 4]), ([1, 5], [1, 5]), ([6], [6]), ([0, 5, 0], [0]), ([7, 8, 0, 1, 2, 3, 4, 5, 6, 7, 8], [7])])
def spec_DrawTurnNumbers.B5 : List Nat := [0, 0, 0, 0, 8, 28, 62, 126, 61, 511]
theorem spec_DrawTurnNumbers.tab5 : rtab .any (opsOf Try.f37 5) = spec_DrawTurnNumbers.T5 := by kernel_rfl
theorem spec_DrawTurnNumbers.bits5 : waitsOk spec_DrawTurnNumbers.T5.2 spec_DrawTurnNumbers.B5 = true := by kernel_rfl
theorem spec_DrawTurnNumbers.calls (k : Nat) (A0 : Option Addr) (c0 : Nat) (l0 : List Int) (r1 : List (S59)) (r2 : Int) (w : World) (hr0 : Kd.C (Kd.int .u8) w A0 l0.length l0) (hc0 : l0.length ≤ c0) (h : spec_DrawTurnNumbers.f k l0 = some (r1, r2)) :
  Calls Try.prog 37 #[.slice A0 l0.length c0] w fun e w' => ∃ v0_ : Value, e = .returned (.tuple #[v0_, .int .i64 r2]) ∧ Kd.R k59 59 w' w.heap.size (fun _ => True) v0_ r1 ∧ Below w.heap.size w w' := by
 have HR0 := aM hr0
 have HC0 := aM hc0
 clear hr0 hc0
 have HB := aM (Below.refl w.heap.size w)
 have H : ((spec_l01From.f k l0).bind fun bt1038 => ((spec_l10Draw.f k bt1038.1 bt1038.2.1 bt1038.2.2).bind fun bt1042 => ((spec_IsRegion.f k bt1042.1).bind fun t1047 => (if t1047 = true then ((spec_l01Next.f bt1038.1 bt1042.2.1 bt1042.2.2 3).bind fun bt1048 => (spec_DrawTurnNumbers.j0 k bt1042.1 (decide (bt1048.1 > 0)) bt1038.1 bt1048.2.1 bt1048.2.2)) else (spec_DrawTurnNumbers.j0 k bt1042.1 false bt1038.1 bt1042.2.1 bt1042.2.2))))) = some (r1, r2) := h
 clear h
 replace H := Option.bind_eq_some_iff.mp H
 obtain ⟨⟨t1038, t1039, t1040⟩, A20, H⟩ := H
 replace H : ((spec_l10Draw.f k t1038 t1039 t1040).bind fun bt1042 => ((spec_IsRegion.f k bt1042.1).bind fun t1047 => (if t1047 = true then ((spec_l01Next.f t1038 bt1042.2.1 bt1042.2.2 3).bind fun bt1048 => (spec_DrawTurnNumbers.j0 k bt1042.1 (decide (bt1048.1 > 0)) t1038 bt1048.2.1 bt1048.2.2)) else (spec_DrawTurnNumbers.j0 k bt1042.1 false t1038 bt1042.2.1 bt1042.2.2)))) = some (r1, r2) := H
 have A2 := aM A20
 clear A20
 replace H := Option.bind_eq_some_iff.mp H
 obtain ⟨⟨t1042, t1045, t1046⟩, A30, H⟩ := H
 replace H : ((spec_IsRegion.f k t1042).bind fun t1047 => (if t1047 = true then ((spec_l01Next.f t1038 t1045 t1046 3).bind fun bt1048 => (spec_DrawTurnNumbers.j0 k t1042 (decide (bt1048.1 > 0)) t1038 bt1048.2.1 bt1048.2.2)) else (spec_DrawTurnNumbers.j0 k t1042 false t1038 t1045 t1046))) = some (r1, r2) := H
 have A3 := aM A30
 clear A30
 have HC4 := aM H
 clear H
 go_enter Try.func37, Try.ntmps37
 go_upto_region 3 with (first | ((with_reducible refine gate_callee (f := 64) rfl ?_); refine goesL_ (some 8) rfl rfl Try.func64 (by kernel_rfl) rfl #[.slice A0 l0.length c0] rfl zm ?_; (with_reducible refine (spec_l01From.calls k _ _ l0 t1038 t1039 t1040 w _ ?side1 ?side2 ?side3 A2.out).mono ?_); (case side1 => repeat (first | (with_reducible first | exact HB.out | apply below_alloc | apply pw_below_drewN | apply below_drew1) | exact HB.out)); (case side2 => exact HR0.out); (case side3 => exact HC0.out); rintro e w5 ⟨g1041, rfl, hi, hb, hb2⟩; refine ⟨_, rfl, ?_⟩; have n0_ := aM (hb); have n1_ := aM (hi); clear HB; have HB := n0_; have HI1041 := n1_; clear n0_ n1_; (try clear hb); (try clear hb2); (try clear hk); (try clear hi)) | ((with_reducible refine gate_callee (f := 77) rfl ?_); refine goesL_ (some 10) rfl rfl Try.func77 (by kernel_rfl) rfl #[.pointer (some ⟨g1041, 0, none⟩)] rfl zm ?_; (with_reducible refine (spec_l10Draw.calls k g1041 t1038 t1039 t1040 t1042 t1045 t1046 w _ ?side1 ?side2 A3.out).mono ?_); (case side1 => exact zI98 HI1041.out); (case side2 => exact zs (IsS98.ge HI1041.out)); rintro e w6 ⟨v1043, rfl, ho0, hi, hb, hk⟩; refine ⟨_, rfl, ?_⟩; have n0_ := aM (Kd.R_lower ho0 (below_size (zs (IsS98.ge HI1041.out)))); have n1_ := aM (hb); have n2_ := aM (hi); clear HB HI1041; have HO1044 := n0_; have HB := n1_; have HI1041 := n2_; clear n0_ n1_ n2_; (try clear hb); (try clear hb2); (try clear hk); (try clear hi); (try clear ho0)))
 (try simp only [Act.put, xA, xB, xC])
 go_cut [17] (fun v17 wc => ∃ (kq : Nat) (x17_3 : Bool) (x1042001_3 : Int) (x1042002_3 : Int), v17 = .bool x17_3 ∧ Aside0 (spec_DrawTurnNumbers.j0 kq t1042 x17_3 t1038 x1042001_3 x1042002_3 = some (r1, r2)) ∧ Aside0 (kq ≤ k) ∧ Aside0 (Kd.R k59 59 wc w.heap.size (fun _ => True) v1043 t1042) ∧ Aside0 (IsS98 w wc g1041 t1038 x1042001_3 x1042002_3) ∧ Aside0 (Below w.heap.size w wc))
 case first =>
  have H := HC4.out
  clear HC4
  replace H := Option.bind_eq_some_iff.mp H
  obtain ⟨t1047, A70, H⟩ := H
  replace H : (if t1047 = true then ((spec_l01Next.f t1038 t1045 t1046 3).bind fun bt1048 => (spec_DrawTurnNumbers.j0 k t1042 (decide (bt1048.1 > 0)) t1038 bt1048.2.1 bt1048.2.2)) else (spec_DrawTurnNumbers.j0 k t1042 false t1038 t1045 t1046)) = some (r1, r2) := H
  have A7 := aM A70
  clear A70
  by_cases c8 : t1047 = true
  rotate_left
  ·replace c8 := Bool.eq_false_iff.mpr c8
   subst c8
   have H1 : (spec_DrawTurnNumbers.j0 k t1042 false t1038 t1045 t1046) = some (r1, r2) := by rw [if_neg (show ¬ (false = true) by decide)] at H; exact H
   clear H
   have H := H1
   clear H1
   have H' := aM H
   clear H
   obtain ⟨Ao13, co13, eo13⟩ := Kd.R_slice HO1044.out
   subst eo13
   go_wp2_with (first | ((with_reducible refine gate_callee (f := 78) rfl ?_); refine goesL_ (some 12) rfl rfl Try.func78 (by kernel_rfl) rfl #[.slice Ao13 t1042.length co13] rfl zm ?_; (with_reducible refine (spec_IsRegion.calls k _ _ t1042 false _ ?side1 ?side2 A7.out).mono ?_); (case side1 => exact zc HO1044.out); (case side2 => exact (Kd.R_reads' HO1044.out).2.1); rintro e w14 ⟨rfl, hb⟩; refine ⟨_, rfl, ?_⟩; have n0_ := aM (Kd.R_below (mR_ HO1044.out) hb); have n1_ := aM (IsS98.below (zI98 HI1041.out) hb); have n2_ := aM (below_step (zs (IsS98.ge HI1041.out)) hb); clear HO1044 HI1041 HB; have HO1044 := n0_; have HI1041 := n1_; have HB := n2_; clear n0_ n1_ n2_; (try clear hb); (try clear hb2); (try clear hk); (try clear hi)))
   go_meet
   case rel => exact ⟨_, (false), (t1045), (t1046), zr, H', ⟨by first | omega | exact Nat.le_refl _⟩, ⟨mR_ HO1044.out⟩, ⟨zI98 HI1041.out⟩, ⟨zs (IsS98.ge HI1041.out)⟩⟩
  subst c8
  have H1 : ((spec_l01Next.f t1038 t1045 t1046 3).bind fun bt1048 => (spec_DrawTurnNumbers.j0 k t1042 (decide (bt1048.1 > 0)) t1038 bt1048.2.1 bt1048.2.2)) = some (r1, r2) := by rw [if_pos rfl] at H; exact H
  clear H
  have H := H1
  clear H1
  replace H := Option.bind_eq_some_iff.mp H
  obtain ⟨⟨t1048, t1049, t1050⟩, A90, H⟩ := H
  replace H : (spec_DrawTurnNumbers.j0 k t1042 (decide (t1048 > 0)) t1038 t1049 t1050) = some (r1, r2) := H
  have A9 := aM A90
  clear A90
  have H' := aM H
  clear H
  obtain ⟨Ao10, co10, eo10⟩ := Kd.R_slice HO1044.out
  subst eo10
  go_wp2_with (first | ((with_reducible refine gate_callee (f := 78) rfl ?_); refine goesL_ (some 12) rfl rfl Try.func78 (by kernel_rfl) rfl #[.slice Ao10 t1042.length co10] rfl zm ?_; (with_reducible refine (spec_IsRegion.calls k _ _ t1042 true _ ?side1 ?side2 A7.out).mono ?_); (case side1 => exact zc HO1044.out); (case side2 => exact (Kd.R_reads' HO1044.out).2.1); rintro e w11 ⟨rfl, hb⟩; refine ⟨_, rfl, ?_⟩; have n0_ := aM (Kd.R_below (mR_ HO1044.out) hb); have n1_ := aM (IsS98.below (zI98 HI1041.out) hb); have n2_ := aM (below_step (zs (IsS98.ge HI1041.out)) hb); clear HO1044 HI1041 HB; have HO1044 := n0_; have HI1041 := n1_; have HB := n2_; clear n0_ n1_ n2_; (try clear hb); (try clear hb2); (try clear hk); (try clear hi)) | (go_at_call 71; (with_reducible refine (spec_l01Next.calls g1041 t1038 t1045 t1046 3 t1048 t1049 t1050 w _ ?side1 ?side2 A9.out).mono ?_); (case side1 => exact zI98 HI1041.out); (case side2 => exact zs (IsS98.ge HI1041.out)); rintro e w12 ⟨rfl, hi, hb, hk⟩; have n0_ := aM (Kd.R_mono (Kd.R_keep (IsS98.apart (show IsS98 w _ g1041 t1038 t1045 t1046 from zI98 HI1041.out) (mR_ HO1044.out) (by decide)) hk (fun _ h => h.2)) (fun _ h => h.1)); have n1_ := aM (hb); have n2_ := aM (hi); clear HO1044 HB HI1041; have HO1044 := n0_; have HB := n1_; have HI1041 := n2_; clear n0_ n1_ n2_; (try clear hb); (try clear hb2); (try clear hk); (try clear hi)))
  go_meet
  case rel => exact ⟨_, (decide (t1048 > 0)), (t1049), (t1050), zr, H', ⟨by first | omega | exact Nat.le_refl _⟩, ⟨mR_ HO1044.out⟩, ⟨zI98 HI1041.out⟩, ⟨zs (IsS98.ge HI1041.out)⟩⟩
 case rest =>
  clear HC4
  try clear p2
  try clear c3
  try clear c6
  try clear c7
  try clear c8
  obtain ⟨kq, x17_3, x1042001_3, x1042002_3, rfl, HA, HJ3, HO_5, HI1041, HB⟩ := hcut
  cases kq with
  | zero => exact absurd HA.out (by simp [spec_DrawTurnNumbers.j0])
  | succ kj3 =>
   have H := HA.out
   clear HA
   simp only [spec_DrawTurnNumbers.j0] at H
   by_cases c15 : x17_3 = true
   rotate_left
   ·replace c15 := Bool.eq_false_iff.mpr c15
    subst c15
    have H1 : ((spec_l03DrawTurn.f t1038 x1042001_3 x1042002_3).bind fun bt1058 => (some (t1042, bt1058.1))) = some (r1, r2) := by rw [if_neg (show ¬ (false = true) by decide)] at H; exact H
    clear H
    have H := H1
    clear H1
    replace H := Option.bind_eq_some_iff.mp H
    obtain ⟨⟨t1058, t1059, t1060⟩, A250, H⟩ := H
    replace H : (some (t1042, t1058)) = some (r1, r2) := H
    have A25 := aM A250
    clear A250
    simp only [Option.some.injEq, Prod.mk.injEq] at H
    obtain ⟨rfl, rfl⟩ := H
    go_wp2_with (first | ((with_reducible refine gate_callee (f := 80) rfl ?_); refine goesL_ (some 30) rfl rfl Try.func80 (by kernel_rfl) rfl #[.pointer (some ⟨g1041, 0, none⟩)] rfl zm ?_; (with_reducible refine (spec_l03DrawTurn.calls g1041 t1038 x1042001_3 x1042002_3 t1058 t1059 t1060 w _ ?side1 ?side2 A25.out).mono ?_); (case side1 => exact zI98 HI1041.out); (case side2 => exact zs (IsS98.ge HI1041.out)); rintro e w26 ⟨rfl, hi, hb, hk⟩; refine ⟨_, rfl, ?_⟩; have n0_ := aM (Kd.R_mono (Kd.R_keep (IsS98.apart (show IsS98 w _ g1041 t1038 x1042001_3 x1042002_3 from zI98 HI1041.out) (mR_ HO_5.out) (by decide)) hk (fun _ h => h.2)) (fun _ h => h.1)); have n1_ := aM (hb); have n2_ := aM (hi); clear HO_5 HB HI1041; have HO_5 := n0_; have HB := n1_; have HI1041 := n2_; clear n0_ n1_ n2_; (try clear hb); (try clear hb2); (try clear hk); (try clear hi)))
    go_ret2
    exact ⟨_, zw, mR_ HO_5.out, zs (IsS98.ge HI1041.out)⟩
   subst c15
   have H1 : ((spec_l10Symmetries.f kj3 t1042).bind fun t1051 => ((spec_l01Next.f t1038 x1042001_3 x1042002_3 (t1051.length : Int)).bind fun bt1054 => (if 0 ≤ bt1054.1 then (if bt1054.1 < (t1051.length : Int) then (some (t1042, rd t1051 bt1054.1)) else (none)) else (none)))) = some (r1, r2) := by rw [if_pos rfl] at H; exact H
   clear H
   have H := H1
   clear H1
   replace H := Option.bind_eq_some_iff.mp H
   obtain ⟨t1051, A160, H⟩ := H
   replace H : ((spec_l01Next.f t1038 x1042001_3 x1042002_3 (t1051.length : Int)).bind fun bt1054 => (if 0 ≤ bt1054.1 then (if bt1054.1 < (t1051.length : Int) then (some (t1042, rd t1051 bt1054.1)) else (none)) else (none))) = some (r1, r2) := H
   have A16 := aM A160
   clear A160
   replace H := Option.bind_eq_some_iff.mp H
   obtain ⟨⟨t1054, t1055, t1056⟩, A170, H⟩ := H
   replace H : (if 0 ≤ t1054 then (if t1054 < (t1051.length : Int) then (some (t1042, rd t1051 t1054)) else (none)) else (none)) = some (r1, r2) := H
   have A17 := aM A170
   clear A170
   by_cases c18 : 0 ≤ t1054
   rotate_left
   ·rw [if_neg c18] at H
    exact absurd H (by simp)
   rw [if_pos c18] at H
   have c18b0 : decide (0 ≤ t1054) = true := decide_eq_true c18
   clear c18
   by_cases c19 : t1054 < (t1051.length : Int)
   rotate_left
   ·rw [if_neg c19] at H
    exact absurd H (by simp)
   rw [if_pos c19] at H
   have c19b0 : decide (t1054 < (t1051.length : Int)) = true := decide_eq_true c19
   clear c19
   simp only [Option.some.injEq, Prod.mk.injEq] at H
   obtain ⟨rfl, rfl⟩ := H
   obtain ⟨Ao20, co20, eo20⟩ := Kd.R_slice HO_5.out
   subst eo20
   try go_wp2_with (first | ((with_reducible refine gate_callee (f := 79) rfl ?_); refine goesL_ (some 19) rfl rfl Try.func79 (by kernel_rfl) rfl #[.slice Ao20 t1042.length co20] rfl zm ?_; (with_reducible refine (spec_l10Symmetries.calls kj3 _ _ t1042 t1051 _ ?side1 ?side2 A16.out).mono ?_); (case side1 => exact zc HO_5.out); (case side2 => exact (Kd.R_reads' HO_5.out).2.1); rintro e w21 ⟨v1052, rfl, ho0, hb⟩; refine ⟨_, rfl, ?_⟩; have n0_ := aM (Kd.R_below (mR_ HO_5.out) hb); have n1_ := aM (Kd.R_lower ho0 (below_size (zs (IsS98.ge HI1041.out)))); have n2_ := aM (IsS98.below (zI98 HI1041.out) hb); have n3_ := aM (below_step (zs (IsS98.ge HI1041.out)) hb); clear HO_5 HI1041 HB; have HO_5 := n0_; have HO1053 := n1_; have HI1041 := n2_; have HB := n3_; clear n0_ n1_ n2_ n3_; (try clear hb); (try clear hb2); (try clear hk); (try clear hi); (try clear ho0)))
   have n0_ := aM (Kd.R_drew HO_5.out)
   have n1_ := aM (Kd.R_drew HO1053.out)
   have n2_ := aM (IsS98.drew HI1041.out)
   have n3_ := aM (below_drew1 HB.out)
   clear HO_5
   clear HO1053
   clear HI1041
   clear HB
   have HO_5 := n0_
   have HO1053 := n1_
   have HI1041 := n2_
   have HB := n3_
   clear n0_ n1_ n2_ n3_
   obtain ⟨Ao23, co23, eo23⟩ := Kd.R_slice HO1053.out
   (first | subst eo23 | (injection eo23 with f1_ f2_ f3_; have f4_ := f1_.symm; have f5_ := f3_.symm; clear f1_ f2_ f3_; subst f4_; subst f5_))
   have p1057 : 0 ≤ (t1054 : Int) := of_decide_eq_true za
   have q1057 : t1054 < (t1051.length : Int) := of_decide_eq_true za
   obtain ⟨ad1057, e1057, hx1057_0⟩ := Kd.at_int (Kd.R_reads' HO1053.out).2.2 t1054 p1057 q1057
   cases e1057
   replace p1057 := eq_true p1057
   replace q1057 := eq_true q1057
   refine start_ (n := 10) (S := fun w' => w'.cell? (ad1057.add (t1054).toNat) = some (.int .i64 (rd t1051 t1054))) (ds := []) zA20 (by kernel_rfl) rfl rfl (hx1057_0) (fun hHeld => ?_); refine with_tabW spec_DrawTurnNumbers.tab5 spec_DrawTurnNumbers.bits5 (fun HT_ HW_ => ?_)
   generalize w21.drew = w22 at HO_5 HO1053 HI1041 HB hx1057_0 hHeld ⊢
   refine zp 0 (some 20) ?_ zA21 rfl rfl (Or.inl ⟨by rfl, ?_⟩) ?_ ?_ ?_
   rotate_left
   ·intro w'
    go_simp
    with_reducible rfl
   rotate_left
   ·simp only [Act.put, xA, xB, xC, i64_w, i32_w]
    rfl
   refine zp 1 (some 21) ?_ zA22 rfl rfl (Or.inl ⟨by rfl, ?_⟩) ?_ ?_ ?_
   rotate_left
   ·intro w'
    go_simp
    with_reducible rfl
   rotate_left
   ·simp only [Act.put, xA, xB, xC, i64_w, i32_w]
    rfl
   refine zp 2 (some 22) ?_ zA23 rfl rfl (Or.inl ⟨by rfl, ?_⟩) ?_ ?_ ?_
   rotate_left
   ·intro w'
    go_simp
    with_reducible rfl
   rotate_left
   ·simp only [Act.put, xA, xB, xC, i64_w, i32_w]
    rfl
   refine zp 3 (some 23) ?_ zA24 rfl rfl (Or.inl ⟨by rfl, ?_⟩) ?_ ?_ ?_
   rotate_left
   ·intro w'
    go_simp
    with_reducible rfl
   rotate_left
   ·simp only [Act.put, xA, xB, xC, i64_w, i32_w]
    rfl
   refine zp 4 (some 24) ?_ zA25 rfl rfl (Or.inl ⟨by rfl, ?_⟩) ?_ ?_ ?_
   rotate_left
   ·intro w'
    go_simp
    with_reducible rfl
   rotate_left
   ·simp only [Act.put, xA, xB, xC, i64_w, i32_w]
    rfl
   refine one_ (i := 5) (N := some 25) zA26 rfl rfl (one_of HT_.out (by kernel_rfl)) (by decide) (fun K hK => ?_)
   refine goes_ Try.func71 (by kernel_rfl) rfl #[.pointer (some ⟨g1041, 0, none⟩), .int .i64 (t1051.length : Int)] (by rfl) rfl rfl zm ?_
   with_reducible refine (spec_l01Next.calls g1041 t1038 x1042001_3 x1042002_3 (t1051.length : Int) t1054 t1055 t1056 w _ ?side1 ?side2 A17.out).mono ?_
   (case side1 => exact zI98 HI1041.out)
   (case side2 => exact zs (IsS98.ge HI1041.out))
   rintro e w24 ⟨rfl, hi, hb, hk⟩
   have HS0_ := keep_cell hk (hHeld) (by first | (rw [add_block]; exact Kd.own_blk (IsS98.own_ne HI1041.out HO1053.out (by decide))) | (show (Addr.add _ _).block ≠ _; rw [add_block]; exact Kd.own_blk (IsS98.own_ne HI1041.out HO1053.out (by decide))) | exact Kd.own_blk (IsS98.own_ne HI1041.out HO1053.out (by decide)))
   refine ⟨_, rfl, ?_⟩
   have n0_ := aM (Kd.R_mono (Kd.R_keep (IsS98.apart (show IsS98 w _ g1041 t1038 x1042001_3 x1042002_3 from zI98 HI1041.out) (mR_ HO_5.out) (by decide)) hk (fun _ h => h.2)) (fun _ h => h.1))
   have n1_ := aM (Kd.R_mono (Kd.R_keep (IsS98.apart (show IsS98 w _ g1041 t1038 x1042001_3 x1042002_3 from zI98 HI1041.out) (mR_ HO1053.out) (by decide)) hk (fun _ h => h.2)) (fun _ h => h.1))
   have n2_ := aM (hb)
   have n3_ := aM (hi)
   clear HO_5
   clear HO1053
   clear HB
   clear HI1041
   have HO_5 := n0_
   have HO1053 := n1_
   have HB := n2_
   have HI1041 := n3_
   clear n0_ n1_ n2_ n3_
   (try clear hb)
   (try clear hb2)
   (try clear hk)
   (try clear hi)
   refine hK.out _ _ (HS0_) (fun hHeld => ?_)
   clear hK K
   refine norm_ (a' := ?_) ?_ ?_
   rotate_left
   ·show Act.put _ (some 25) _ = _
    simp only [Act.put, xA, xB, xC, i64_w, i32_w]
    rfl
   refine zp 6 (some 26) ?_ zA27 rfl rfl (Or.inl ⟨by rfl, ?_⟩) ?_ ?_ ?_
   rotate_left
   ·intro w'
    go_simp
    with_reducible rfl
   rotate_left
   ·simp only [Act.put, xA, xB, xC, i64_w, i32_w]
    rfl
   refine zp 8 (some 2) ?_ zA142 rfl rfl (Or.inl ⟨by rfl, ?_⟩) ?_ ?_ ?_
   rotate_left
   ·intro w'
    go_simp
    with_reducible rfl
   rotate_left
   ·simp only [Act.put, xA, xB, xC, i64_w, i32_w]
    rfl
   refine zu 7 (some 27) ?_ zA29 rfl rfl (Or.inl ⟨by rfl, ?_⟩) hHeld ?_ ?_ ?_
   rotate_left
   ·intro w' s0
    go_simp
    with_reducible rfl
   rotate_left
   ·simp only [Act.put, xA, xB, xC, i64_w, i32_w]
    rfl
   refine zp 9 (some 3) ?_ zA30 rfl rfl (Or.inl ⟨by rfl, ?_⟩) ?_ ?_ ?_
   rotate_left
   ·intro w'
    go_simp
    with_reducible rfl
   rotate_left
   ·simp only [Act.put, xA, xB, xC, i64_w, i32_w]
    rfl
   refine done_ (done_of HT_.out (by kernel_rfl)) ?_
   try go_wp2
   go_ret2
   exact ⟨_, zw, mR_ HO_5.out, zs (IsS98.ge HI1041.out)⟩
def impl_isTurn.f (a0 : Int) : Option (Bool) := (impl_within.f a0 0 7).bind fun t546 => (some t546)
theorem impl_isTurn.calls (a0 : Int) (r : Bool) (w : World) (h : impl_isTurn.f a0 = some r) :
  Calls Try.prog 68 #[.int .i64 a0] w fun e w' => e = .returned (.bool r) ∧ Drawn0 w w' := by
 have H : ((impl_within.f a0 0 7).bind fun t546 => (some t546)) = some r := h
 clear h
 replace H := Option.bind_eq_some_iff.mp H
 obtain ⟨t546, A20, H⟩ := H
 replace H : (some t546) = some r := H
 have A2 := aM A20
 clear A20
 obtain rfl := Option.some.inj H
 go_enter Try.func68, Try.ntmps68
 go_wp2_with (first | ((with_reducible refine gate_callee (f := 88) rfl ?_); refine goesL_ (some 4) rfl rfl Try.func88 (by kernel_rfl) rfl #[.int .i64 a0, .int .i64 0, .int .i64 7] rfl zm ?_; (with_reducible refine (impl_within.calls a0 0 7 t546 _ A2.out).mono ?_); rintro e w' ⟨rfl, ⟨nd, rfl⟩⟩; refine ⟨_, rfl, ?_⟩))
 go_ret
 exact ⟨by first | rfl | (simp; done) | (simp [*]; done), by repeat (first | exact Drawn0.refl _ | apply Drawn0.step)⟩
end Go.Proofs.Ytfdfdifjkaaeoaa.F
end
section
namespace Go.Proofs.Ytfdfdifjkaaeoaa.F
open Go.RowKit Go.Proofs.YtfdfdifjkaaeoaaW.PrintWords Go.Proofs.YtfdfdifjkaaeoaaW.PrintLast Go.Proofs.YtfdfdifjkaaeoaaW.PrintMore
attribute [local go_sem] max2_int min2_int max_two min_two max_three min_three max_four min_four
set_option linter.unusedVariables false
set_option linter.unusedSimpArgs false
mutual
def impl_turnCell.j0 : Nat → Int → Int → Int → Option (Int × Int)
 | 0, _, _, _ => none
 | k + 1, x1, x548000, x548001 => impl_turnCell.l0 k (Int.tmod x1 4) 0 x548000 x548001
def impl_turnCell.l0 : Nat → Int → Int → Int → Int → Option (Int × Int)
 | 0, _, _, _, _ => none
 | k + 1, x12, x13, x548000, x548001 => if x13 < x12 then (impl_turnCell.l0 k x12 (wrap64 (x13 + 1)) (wrap64 (-x548001)) x548000) else (some (x548000, x548001))
end
def impl_turnCell.f (k : Nat) (a0_0 : Int) (a0_1 : Int) (a1 : Int) : Option (Int × Int) := if a1 ≥ 4 then (impl_turnCell.j0 k a1 (wrap64 (-a0_0)) a0_1) else (impl_turnCell.j0 k a1 a0_0 a0_1)
theorem impl_turnCell.calls (k : Nat) (a0_0 : Int) (a0_1 : Int) (a1 : Int) (r1 : Int) (r2 : Int) (w : World) (h : impl_turnCell.f k a0_0 a0_1 a1 = some (r1, r2)) :
  Calls Try.prog 108 #[.agg #[.int .i64 a0_0, .int .i64 a0_1], .int .i64 a1] w fun e w' => e = .returned (.agg #[.int .i64 r1, .int .i64 r2]) ∧ Below w.heap.size w w' := by
 have hu59 := Try.underlying59
 have HB := aM (Below.refl w.heap.size w)
 have H : (if a1 ≥ 4 then (impl_turnCell.j0 k a1 (wrap64 (-a0_0)) a0_1) else (impl_turnCell.j0 k a1 a0_0 a0_1)) = some (r1, r2) := h
 clear h
 have HC3 := aM H
 clear H
 go_enter Try.func108, Try.ntmps108
 go_upto_if 6 with (first | ((with_reducible refine gate_dst (N := 2) rfl ?_); refine zx 2 #[.int .i64 a0_0, .int .i64 a0_1] 59 ?_; intro gb547 hg w4 hbox hb; have n0_ := aM (below_step zb hb); have n1_ := aM (hbox); have n2_ := aM ((ze : w.heap.size ≤ gb547)); have n3_ := aM ((ze : w.heap.size ≤ gb547)); clear HB; have HB := n0_; have BK547 := n1_; have GW547 := n2_; have GE547 := n3_; clear n0_ n1_ n2_ n3_; clear hb hbox hg) | ((with_reducible refine gate_dst (N := 4) rfl ?_); refine zx 4 #[.int .i64 0, .int .i64 0] 59 ?_; intro gb548 hg w5 hbox hb; have n0_ := aM (blk_below (g := gb547) (o := .cells #[.int .i64 a0_0, .int .i64 a0_1] 59 (0, 0)) (mB_ BK547.out) hb); have n1_ := aM (below_step (zs GE547.out) hb); have n2_ := aM (hbox); have n3_ := aM ((zf GE547.out : w.heap.size ≤ gb548)); have n4_ := aM ((zf GE547.out : w.heap.size ≤ gb548)); have n5_ := aM ((zl BK547.out : gb547 ≠ gb548)); have n6_ := aM ((zn BK547.out : gb548 ≠ gb547)); clear BK547 HB; have BK547 := n0_; have HB := n1_; have BK548 := n2_; have GW548 := n3_; have GE548 := n4_; have NB547_548 := n5_; have NB548_547 := n6_; clear n0_ n1_ n2_ n3_ n4_ n5_ n6_; clear hb hbox hg))
 (try simp only [Act.put, xA, xB, xC])
 go_cut [] (fun wc => ∃ (kq : Nat) (x548000_2 : Int), Aside0 (impl_turnCell.j0 kq a1 x548000_2 a0_1 = some (r1, r2)) ∧ Aside0 (kq ≤ k) ∧ Aside0 (wc.heap[gb547]? = some (.cells #[.int .i64 x548000_2, .int .i64 a0_1] 59 (0, 0))) ∧ Aside0 (wc.heap[gb548]? = some (.cells #[.int .i64 0, .int .i64 0] 59 (0, 0))) ∧ Aside0 (Below w.heap.size w wc))
 case first =>
  have H := HC3.out
  clear HC3
  by_cases c6 : a1 ≥ 4
  rotate_left
  ·rw [if_neg c6] at H
   have c6b0 : decide (4 ≤ a1) = false := decide_eq_false c6
   clear c6
   (first | rw [c6b0] | (simp only [i64_w, i32_w]; rw [c6b0]) | skip)
   have H' := aM H
   clear H
   go_wp2
   go_meet
   case rel => exact ⟨_, (a0_0), H', ⟨by first | omega | exact Nat.le_refl _⟩, ⟨mB_ BK547.out⟩, ⟨mB_ BK548.out⟩, ⟨zt GE547.out GE548.out⟩⟩
  rw [if_pos c6] at H
  have c6b0 : decide (4 ≤ a1) = true := decide_eq_true c6
  clear c6
  (first | rw [c6b0] | (simp only [i64_w, i32_w]; rw [c6b0]) | skip)
  have H' := aM H
  clear H
  have hnb7 := NB547_548.out
  have hnc7 := NB548_547.out
  have hcz8_0 : w5.cell? ⟨gb547, 0, none⟩ = some (.int .i64 a0_0) := (blk_cell BK547.out 0).trans rfl
  have hcz8_1 : w5.cell? ⟨gb547, 1, none⟩ = some (.int .i64 a0_1) := (blk_cell BK547.out 1).trans rfl
  have hfz8_0 := blk_frozen BK547.out 0
  have hfz8_1 := blk_frozen BK547.out 1
  go_wp2
  go_meet
  case rel => exact ⟨_, (wrap64 (-a0_0)), H', ⟨by first | omega | exact Nat.le_refl _⟩, ⟨by (with_reducible repeat (first | refine blk_drewN ?_ _ | refine blk_drew ?_ | refine blk_alloc ?_ _)); refine blk_put (cs := #[.int .i64 a0_0, .int .i64 a0_1]) ?_ 0 _ rfl; (with_reducible repeat (first | refine blk_drewN ?_ _ | refine blk_drew ?_ | refine blk_alloc ?_ _)); exact BK547.out⟩, ⟨by (with_reducible repeat (first | refine blk_drewN ?_ _ | refine blk_drew ?_ | refine blk_alloc ?_ _)); refine blk_far ?_ NB548_547.out _; (with_reducible repeat (first | refine blk_drewN ?_ _ | refine blk_drew ?_ | refine blk_alloc ?_ _)); exact BK548.out⟩, ⟨zt GE547.out GE548.out⟩⟩
 case rest =>
  clear HC3
  try clear c1
  try clear p2
  try clear c6
  try clear c6b0
  try clear p6
  try clear c7
  try clear hcz8_0
  try clear hcz8_1
  try clear hfz8_0
  try clear hfz8_1
  obtain ⟨kq, x548000_2, HA, HJ2, BK547, BK548, HB⟩ := hcut
  cases kq with
  | zero => exact absurd HA.out (by simp [impl_turnCell.j0])
  | succ kj2 =>
   have H := HA.out
   clear HA
   simp only [impl_turnCell.j0] at H
   have H' := aM H
   clear H
   go_wp2
   go_loopg [13] kj2 (fun kq v13 w' => ∃ (x13_2 : Int) (x548000_2 : Int) (x548001_2 : Int), v13 = .int .i64 x13_2 ∧ Aside0 (impl_turnCell.l0 kq (Int.tmod a1 4) x13_2 x548000_2 x548001_2 = some (r1, r2)) ∧ Aside0 (kq ≤ kj2) ∧ Aside0 (w'.heap[gb547]? = some (.cells #[.int .i64 x548000_2, .int .i64 x548001_2] 59 (0, 0))) ∧ Aside0 (w'.heap[gb548]? = some (.cells #[.int .i64 0, .int .i64 0] 59 (0, 0))) ∧ Aside0 (Below w.heap.size w w'))
   case atStart => exact ⟨(0), (x548000_2), (a0_1), zr, H', ⟨Nat.le_refl _⟩, ⟨mB_ BK547.out⟩, ⟨mB_ BK548.out⟩, ⟨zt GE547.out GE548.out⟩⟩
   case round =>
    clear H'
    try clear c1
    try clear p2
    try clear c6
    try clear c6b0
    try clear p6
    try clear c7
    try clear hcz8_0
    try clear hcz8_1
    try clear hfz8_0
    try clear hfz8_1
    try clear p2
    try clear p6
    obtain ⟨x13_2, x548000_2, x548001_2, rfl, HA, HK2, BK547, BK548, HB⟩ := hrel
    cases gk with
    | zero => exact absurd HA.out (by simp [impl_turnCell.l0])
    | succ k2 =>
     have H := HA.out
     clear HA
     simp only [impl_turnCell.l0] at H
     by_cases c9 : x13_2 < (Int.tmod a1 4)
     ·rw [if_pos c9] at H
      have c9b0 : decide (x13_2 < (Int.tmod a1 4)) = true := decide_eq_true c9
      clear c9
      have H' := aM H
      clear H
      have hnb10 := NB547_548.out
      have hnc10 := NB548_547.out
      have hcz11_0 : wr.cell? ⟨gb547, 0, none⟩ = some (.int .i64 x548000_2) := (blk_cell BK547.out 0).trans rfl
      have hcz11_1 : wr.cell? ⟨gb547, 1, none⟩ = some (.int .i64 x548001_2) := (blk_cell BK547.out 1).trans rfl
      have hfz11_0 := blk_frozen BK547.out 0
      have hfz11_1 := blk_frozen BK547.out 1
      go_wp2
      go_roundg k2
      case measure => have := HJ2.out; have := HK2.out; omega
      case rel => exact ⟨(wrap64 (x13_2 + 1)), (wrap64 (-x548001_2)), (x548000_2), zr, H', ⟨by have := HJ2.out; have := HK2.out; omega⟩, ⟨by (with_reducible repeat (first | refine blk_drewN ?_ _ | refine blk_drew ?_ | refine blk_alloc ?_ _)); refine blk_put (cs := #[.int .i64 (wrap64 (-x548001_2)), .int .i64 x548001_2]) ?_ 1 _ rfl; (with_reducible repeat (first | refine blk_drewN ?_ _ | refine blk_drew ?_ | refine blk_alloc ?_ _)); refine blk_put (cs := #[.int .i64 x548000_2, .int .i64 x548001_2]) ?_ 0 _ rfl; (with_reducible repeat (first | refine blk_drewN ?_ _ | refine blk_drew ?_ | refine blk_alloc ?_ _)); exact BK547.out⟩, ⟨by (with_reducible repeat (first | refine blk_drewN ?_ _ | refine blk_drew ?_ | refine blk_alloc ?_ _)); refine blk_far ?_ NB548_547.out _; (with_reducible repeat (first | refine blk_drewN ?_ _ | refine blk_drew ?_ | refine blk_alloc ?_ _)); refine blk_far ?_ NB548_547.out _; (with_reducible repeat (first | refine blk_drewN ?_ _ | refine blk_drew ?_ | refine blk_alloc ?_ _)); exact BK548.out⟩, ⟨zt GE547.out GE548.out⟩⟩
     rw [if_neg c9] at H
     have c9b0 : decide (x13_2 < (Int.tmod a1 4)) = false := decide_eq_false c9
     clear c9
     simp only [Option.some.injEq, Prod.mk.injEq] at H
     obtain ⟨rfl, rfl⟩ := H
     have hnb12 := NB547_548.out
     have hnc12 := NB548_547.out
     have hcz13_0 : wr.cell? ⟨gb547, 0, none⟩ = some (.int .i64 x548000_2) := (blk_cell BK547.out 0).trans rfl
     have hcz13_1 : wr.cell? ⟨gb547, 1, none⟩ = some (.int .i64 x548001_2) := (blk_cell BK547.out 1).trans rfl
     have hfz13_0 := blk_frozen BK547.out 0
     have hfz13_1 := blk_frozen BK547.out 1
     have hcz14_0 : wr.cell? ⟨gb548, 0, none⟩ = some (.int .i64 0) := (blk_cell BK548.out 0).trans rfl
     have hcz14_1 : wr.cell? ⟨gb548, 1, none⟩ = some (.int .i64 0) := (blk_cell BK548.out 1).trans rfl
     have hfz14_0 := blk_frozen BK548.out 0
     have hfz14_1 := blk_frozen BK548.out 1
     go_wp2
     refine bodyPost_ret (results_cell_row rfl _ _ gb548 59 #[.int .i64 x548000_2, .int .i64 x548001_2] (0, 0) _ rfl (by (with_reducible repeat (first | refine blk_drewN ?_ _ | refine blk_drew ?_ | refine blk_alloc ?_ _)); refine blk_put (cs := #[.int .i64 x548000_2, .int .i64 0]) ?_ 1 _ rfl; (with_reducible repeat (first | refine blk_drewN ?_ _ | refine blk_drew ?_ | refine blk_alloc ?_ _)); refine blk_put (cs := #[.int .i64 0, .int .i64 0]) ?_ 0 _ rfl; (with_reducible repeat (first | refine blk_drewN ?_ _ | refine blk_drew ?_ | refine blk_alloc ?_ _)); exact BK548.out) Try.underlying59 rfl (by kernel_rfl)) rfl ?_
     exact ⟨zw, zt GE547.out GE548.out⟩
def impl_form.l0 : Nat → Int → List (S59) → List (S59) → Int → Int → Option ((List (S59)))
 | 0, _, _, _, _, _ => none
 | k + 1, x1, x5, x11, x12, x13 => if x13 < x12 then (if 0 ≤ x13 then (if x13 < (x11.length : Int) then ((impl_turnCell.f k ((rd_T59 x11 x13).f0) ((rd_T59 x11 x13).f1) x1).bind fun bt554 => (if x5.length < 8796093022208 then (impl_form.l0 k x1 (x5 ++ [(⟨bt554.1, bt554.2⟩ : S59)]) x11 x12 (wrap64 (x13 + 1))) else (none))) else (none)) else (none)) else ((impl_sorted.f x5).bind fun t559 => ((impl_normal.f k t559).bind fun t562 => (some t562)))
def impl_form.f (k : Nat) (l0 : List (S59)) (a1 : Int) : Option ((List (S59))) := if 0 ≤ (l0.length : Int) then (if ((l0.length : Int) : Int).toNat ≤ 17592186044416 then (impl_form.l0 k a1 (([] : List (S59))) l0 (l0.length : Int) 0) else (none)) else (none)
end Go.Proofs.Ytfdfdifjkaaeoaa.F
end
