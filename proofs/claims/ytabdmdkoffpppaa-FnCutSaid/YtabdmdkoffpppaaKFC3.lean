/- The row of FnCut, with what it needs: text 4 of 11. -/
import Derived.Test.YtabdmdkoffpppaaKFC2
set_option maxHeartbeats 8000000
set_option maxRecDepth 100000
section
namespace Go.Proofs.Ytabdmdkoffpppaa.F
open Go.RowKit Go.Proofs.YtabdmdkoffpppaaW.PrintWords Go.Proofs.YtabdmdkoffpppaaW.PrintLast Go.Proofs.YtabdmdkoffpppaaW.PrintMore
attribute [local go_sem] max2_int min2_int max_two min_two max_three min_three max_four min_four
set_option linter.unusedVariables false
set_option linter.unusedSimpArgs false
attribute [local go_sem high] eqA59
theorem spec_l01Rises.calls (k : Nat) (A0 : Option Addr) (c0 : Nat) (l0 : List Int) (a1 : Int) (r : Bool) (w : World) (hr0 : Kd.C (Kd.int .i64) w A0 l0.length l0) (hc0 : l0.length ≤ c0) (h : spec_l01Rises.f k l0 a1 = some r) :
  Calls Try.prog 117 #[.slice A0 l0.length c0, .int .i64 a1] w fun e w' => e = .returned (.bool r) ∧ Drawn0 w w' := by
 have HR0 := aM hr0
 have HC0 := aM hc0
 clear hr0 hc0
 have H : (spec_l01Rises.l0 k l0 a1 0) = some r := h
 clear h
 have H' := aM H
 clear H
 go_enter Try.func117, Try.ntmps117
 go_wp2
 repeat (go_quiet (fail); try go_wp2)
 go_loopg [5] k (fun kq v5 w' => ∃ (x5_1 : Int), v5 = .int .i64 x5_1 ∧ Aside0 (spec_l01Rises.l0 kq l0 a1 x5_1 = some r) ∧ Aside0 (kq ≤ k) ∧ Drawn0 w w')
 case atStart => exact ⟨(0), zr, H', ⟨Nat.le_refl _⟩, by repeat (first | exact Drawn0.refl _ | apply Drawn0.step)⟩
 case round =>
  clear H'
  try clear c1
  try clear p2
  obtain ⟨x5_1, rfl, HA, HK1, ⟨m1, rfl⟩⟩ := hrel
  cases gk with
  | zero => exact absurd HA.out (by simp [spec_l01Rises.l0])
  | succ k1 =>
   have H := HA.out
   clear HA
   simp only [spec_l01Rises.l0] at H
   by_cases c3 : x5_1 < (l0.length : Int)
   rotate_left
   ·rw [if_neg c3] at H
    have c3b0 : decide (x5_1 < (l0.length : Int)) = false := decide_eq_false c3
    clear c3
    obtain rfl := Option.some.inj H
    go_wp2
    repeat (go_quiet (fail); try go_wp2)
    go_ret
    exact ⟨by first | rfl | (simp; done) | (simp [*]; done), by repeat (first | exact Drawn0.refl _ | apply Drawn0.step)⟩
   rw [if_pos c3] at H
   have c3b0 : decide (x5_1 < (l0.length : Int)) = true := decide_eq_true c3
   clear c3
   by_cases c4 : 0 ≤ x5_1
   rotate_left
   ·rw [if_neg c4] at H
    exact absurd H (by simp)
   rw [if_pos c4] at H
   have c4b0 : decide (0 ≤ x5_1) = true := decide_eq_true c4
   clear c4
   replace H := Option.bind_eq_some_iff.mp H
   obtain ⟨t957, A50, H⟩ := H
   replace H : (if t957 = true then (if x5_1 > 0 then (if 0 ≤ (wrap64 (x5_1 - 1)) then (if (wrap64 (x5_1 - 1)) < (l0.length : Int) then (if (rd l0 x5_1) ≤ (rd l0 (wrap64 (x5_1 - 1))) then (some false) else (spec_l01Rises.l0 k1 l0 a1 (wrap64 (x5_1 + 1)))) else (none)) else (none)) else (spec_l01Rises.l0 k1 l0 a1 (wrap64 (x5_1 + 1)))) else (some false)) = some r := H
   have A5 := aM A50
   clear A50
   by_cases c6 : t957 = true
   rotate_left
   ·replace c6 := Bool.eq_false_iff.mpr c6
    subst c6
    have H1 : (some false) = some r := by rw [if_neg (show ¬ (false = true) by decide)] at H; exact H
    clear H
    have H := H1
    clear H1
    obtain rfl := Option.some.inj H
    have p956 : 0 ≤ (x5_1 : Int) := of_decide_eq_true za
    have q956 : x5_1 < (l0.length : Int) := of_decide_eq_true za
    obtain ⟨ad956, e956, hx956_0⟩ := Kd.at_int HR0.out x5_1 p956 q956
    cases e956
    replace p956 := eq_true p956
    replace q956 := eq_true q956
    go_wp2_with (first | (go_at_call 129; (with_reducible refine (spec_l01In.calls (rd l0 x5_1) 0 (wrap64 (a1 - 1)) false _ A5.out).mono ?_); rintro e w' ⟨rfl, ⟨nd, rfl⟩⟩; (try first | exact ⟨rfl, _, World.drewN_drewN _ _ _⟩ | exact ⟨rfl, _, Eq.trans (World.drewN_drewN _ _ _) (congrArg (World.drewN _) (Nat.add_assoc _ _ _))⟩)))
    repeat (go_quiet (first | (go_at_call 129; (try simp only [i64_w]); (with_reducible refine (spec_l01In.calls (rd l0 x5_1) 0 (wrap64 (a1 - 1)) false _ A5.out).mono ?_); rintro e w' ⟨rfl, ⟨nd, rfl⟩⟩; (try first | exact ⟨rfl, _, World.drewN_drewN _ _ _⟩ | exact ⟨rfl, _, Eq.trans (World.drewN_drewN _ _ _) (congrArg (World.drewN _) (Nat.add_assoc _ _ _))⟩))); try go_wp2_with (first | (go_at_call 129; (try simp only [i64_w]); (with_reducible refine (spec_l01In.calls (rd l0 x5_1) 0 (wrap64 (a1 - 1)) false _ A5.out).mono ?_); rintro e w' ⟨rfl, ⟨nd, rfl⟩⟩; (try first | exact ⟨rfl, _, World.drewN_drewN _ _ _⟩ | exact ⟨rfl, _, Eq.trans (World.drewN_drewN _ _ _) (congrArg (World.drewN _) (Nat.add_assoc _ _ _))⟩))))
    go_ret
    exact ⟨by first | rfl | (simp; done) | (simp [*]; done), by repeat (first | exact Drawn0.refl _ | apply Drawn0.step)⟩
   subst c6
   have H1 : (if x5_1 > 0 then (if 0 ≤ (wrap64 (x5_1 - 1)) then (if (wrap64 (x5_1 - 1)) < (l0.length : Int) then (if (rd l0 x5_1) ≤ (rd l0 (wrap64 (x5_1 - 1))) then (some false) else (spec_l01Rises.l0 k1 l0 a1 (wrap64 (x5_1 + 1)))) else (none)) else (none)) else (spec_l01Rises.l0 k1 l0 a1 (wrap64 (x5_1 + 1)))) = some r := by rw [if_pos rfl] at H; exact H
   clear H
   have H := H1
   clear H1
   by_cases c7 : x5_1 > 0
   rotate_left
   ·rw [if_neg c7] at H
    have c7b0 : decide (0 < x5_1) = false := decide_eq_false c7
    clear c7
    have H' := aM H
    clear H
    have p956 : 0 ≤ (x5_1 : Int) := of_decide_eq_true za
    have q956 : x5_1 < (l0.length : Int) := of_decide_eq_true za
    obtain ⟨ad956, e956, hx956_0⟩ := Kd.at_int HR0.out x5_1 p956 q956
    cases e956
    replace p956 := eq_true p956
    replace q956 := eq_true q956
    go_wp2_with (first | (go_at_call 129; (with_reducible refine (spec_l01In.calls (rd l0 x5_1) 0 (wrap64 (a1 - 1)) true _ A5.out).mono ?_); rintro e w' ⟨rfl, ⟨nd, rfl⟩⟩; (try first | exact ⟨rfl, _, World.drewN_drewN _ _ _⟩ | exact ⟨rfl, _, Eq.trans (World.drewN_drewN _ _ _) (congrArg (World.drewN _) (Nat.add_assoc _ _ _))⟩)))
    repeat (go_quiet (first | (go_at_call 129; (try simp only [i64_w]); (with_reducible refine (spec_l01In.calls (rd l0 x5_1) 0 (wrap64 (a1 - 1)) true _ A5.out).mono ?_); rintro e w' ⟨rfl, ⟨nd, rfl⟩⟩; (try first | exact ⟨rfl, _, World.drewN_drewN _ _ _⟩ | exact ⟨rfl, _, Eq.trans (World.drewN_drewN _ _ _) (congrArg (World.drewN _) (Nat.add_assoc _ _ _))⟩))); try go_wp2_with (first | (go_at_call 129; (try simp only [i64_w]); (with_reducible refine (spec_l01In.calls (rd l0 x5_1) 0 (wrap64 (a1 - 1)) true _ A5.out).mono ?_); rintro e w' ⟨rfl, ⟨nd, rfl⟩⟩; (try first | exact ⟨rfl, _, World.drewN_drewN _ _ _⟩ | exact ⟨rfl, _, Eq.trans (World.drewN_drewN _ _ _) (congrArg (World.drewN _) (Nat.add_assoc _ _ _))⟩))))
    go_roundg k1
    case measure => have := HK1.out; omega
    case rel => exact ⟨(wrap64 (x5_1 + 1)), zr, H', ⟨by have := HK1.out; omega⟩, by repeat (first | exact Drawn0.refl _ | apply Drawn0.step)⟩
   rw [if_pos c7] at H
   have c7b0 : decide (0 < x5_1) = true := decide_eq_true c7
   clear c7
   obtain ⟨ji8, hji8⟩ : ∃ j_ : Int, (wrap64 (x5_1 - 1)) = j_ := ⟨_, rfl⟩
   replace H : (if 0 ≤ (ji8) then (if (ji8) < (l0.length : Int) then (if (rd l0 x5_1) ≤ (rd l0 (ji8)) then (some false) else (spec_l01Rises.l0 k1 l0 a1 (wrap64 (x5_1 + 1)))) else (none)) else (none)) = some r := by first | (rw [hji8] at H; exact H) | (simp only [hji8] at H ⊢; exact H)
   (try rw [hji8] at A5)
   have hji8w : (IntKind.i64.wrap (x5_1 - 1)) = ji8 := (i64_w _).trans hji8
   by_cases c9 : 0 ≤ (ji8)
   rotate_left
   ·rw [if_neg c9] at H
    exact absurd H (by simp)
   rw [if_pos c9] at H
   have c9b0 : decide (0 ≤ (ji8)) = true := decide_eq_true c9
   clear c9
   by_cases c10 : (ji8) < (l0.length : Int)
   rotate_left
   ·rw [if_neg c10] at H
    exact absurd H (by simp)
   rw [if_pos c10] at H
   have c10b0 : decide ((ji8) < (l0.length : Int)) = true := decide_eq_true c10
   clear c10
   by_cases c11 : (rd l0 x5_1) ≤ (rd l0 (ji8))
   ·rw [if_pos c11] at H
    have c11b0 : decide ((rd l0 x5_1) ≤ (rd l0 (ji8))) = true := decide_eq_true c11
    clear c11
    obtain rfl := Option.some.inj H
    have p956 : 0 ≤ (x5_1 : Int) := of_decide_eq_true za
    have q956 : x5_1 < (l0.length : Int) := of_decide_eq_true za
    obtain ⟨ad956, e956, hx956_0⟩ := Kd.at_int HR0.out x5_1 p956 q956
    cases e956
    replace p956 := eq_true p956
    replace q956 := eq_true q956
    go_wp2_with (first | (go_at_call 129; (with_reducible refine (spec_l01In.calls (rd l0 x5_1) 0 (wrap64 (a1 - 1)) true _ A5.out).mono ?_); rintro e w' ⟨rfl, ⟨nd, rfl⟩⟩; (try first | exact ⟨rfl, _, World.drewN_drewN _ _ _⟩ | exact ⟨rfl, _, Eq.trans (World.drewN_drewN _ _ _) (congrArg (World.drewN _) (Nat.add_assoc _ _ _))⟩); have p958 : 0 ≤ (x5_1 : Int) := of_decide_eq_true za; have q958 : x5_1 < (l0.length : Int) := of_decide_eq_true za; obtain ⟨ad958, e958, hx958_0⟩ := Kd.at_int HR0.out x5_1 p958 q958; obtain rfl : ad956 = ad958 := (by injection e958); replace p958 := eq_true p958; replace q958 := eq_true q958; have p959 : 0 ≤ ((ji8) : Int) := of_decide_eq_true za; have q959 : (ji8) < (l0.length : Int) := of_decide_eq_true za; obtain ⟨ad959, e959, hx959_0⟩ := Kd.at_int HR0.out (ji8) p959 q959; obtain rfl : ad956 = ad959 := (by injection e959); replace p959 := eq_true p959; replace q959 := eq_true q959))
    repeat (go_quiet (first | (go_at_call 129; (try simp only [i64_w]); (with_reducible refine (spec_l01In.calls (rd l0 x5_1) 0 (wrap64 (a1 - 1)) true _ A5.out).mono ?_); rintro e w' ⟨rfl, ⟨nd, rfl⟩⟩; (try first | exact ⟨rfl, _, World.drewN_drewN _ _ _⟩ | exact ⟨rfl, _, Eq.trans (World.drewN_drewN _ _ _) (congrArg (World.drewN _) (Nat.add_assoc _ _ _))⟩); have p958 : 0 ≤ (x5_1 : Int) := of_decide_eq_true za; have q958 : x5_1 < (l0.length : Int) := of_decide_eq_true za; obtain ⟨ad958, e958, hx958_0⟩ := Kd.at_int HR0.out x5_1 p958 q958; obtain rfl : ad956 = ad958 := (by injection e958); replace p958 := eq_true p958; replace q958 := eq_true q958; have p959 : 0 ≤ ((ji8) : Int) := of_decide_eq_true za; have q959 : (ji8) < (l0.length : Int) := of_decide_eq_true za; obtain ⟨ad959, e959, hx959_0⟩ := Kd.at_int HR0.out (ji8) p959 q959; obtain rfl : ad956 = ad959 := (by injection e959); replace p959 := eq_true p959; replace q959 := eq_true q959)); try go_wp2_with (first | (go_at_call 129; (try simp only [i64_w]); (with_reducible refine (spec_l01In.calls (rd l0 x5_1) 0 (wrap64 (a1 - 1)) true _ A5.out).mono ?_); rintro e w' ⟨rfl, ⟨nd, rfl⟩⟩; (try first | exact ⟨rfl, _, World.drewN_drewN _ _ _⟩ | exact ⟨rfl, _, Eq.trans (World.drewN_drewN _ _ _) (congrArg (World.drewN _) (Nat.add_assoc _ _ _))⟩); have p958 : 0 ≤ (x5_1 : Int) := of_decide_eq_true za; have q958 : x5_1 < (l0.length : Int) := of_decide_eq_true za; obtain ⟨ad958, e958, hx958_0⟩ := Kd.at_int HR0.out x5_1 p958 q958; obtain rfl : ad956 = ad958 := (by injection e958); replace p958 := eq_true p958; replace q958 := eq_true q958; have p959 : 0 ≤ ((ji8) : Int) := of_decide_eq_true za; have q959 : (ji8) < (l0.length : Int) := of_decide_eq_true za; obtain ⟨ad959, e959, hx959_0⟩ := Kd.at_int HR0.out (ji8) p959 q959; obtain rfl : ad956 = ad959 := (by injection e959); replace p959 := eq_true p959; replace q959 := eq_true q959)))
    go_ret
    exact ⟨by first | rfl | (simp; done) | (simp only [← hji8] <;> (first | rfl | simp)) | (simp [*]; done), by repeat (first | exact Drawn0.refl _ | apply Drawn0.step)⟩
   rw [if_neg c11] at H
   have c11b0 : decide ((rd l0 x5_1) ≤ (rd l0 (ji8))) = false := decide_eq_false c11
   clear c11
   have H' := aM H
   clear H
   have p956 : 0 ≤ (x5_1 : Int) := of_decide_eq_true za
   have q956 : x5_1 < (l0.length : Int) := of_decide_eq_true za
   obtain ⟨ad956, e956, hx956_0⟩ := Kd.at_int HR0.out x5_1 p956 q956
   cases e956
   replace p956 := eq_true p956
   replace q956 := eq_true q956
   go_wp2_with (first | (go_at_call 129; (with_reducible refine (spec_l01In.calls (rd l0 x5_1) 0 (wrap64 (a1 - 1)) true _ A5.out).mono ?_); rintro e w' ⟨rfl, ⟨nd, rfl⟩⟩; (try first | exact ⟨rfl, _, World.drewN_drewN _ _ _⟩ | exact ⟨rfl, _, Eq.trans (World.drewN_drewN _ _ _) (congrArg (World.drewN _) (Nat.add_assoc _ _ _))⟩); have p958 : 0 ≤ (x5_1 : Int) := of_decide_eq_true za; have q958 : x5_1 < (l0.length : Int) := of_decide_eq_true za; obtain ⟨ad958, e958, hx958_0⟩ := Kd.at_int HR0.out x5_1 p958 q958; obtain rfl : ad956 = ad958 := (by injection e958); replace p958 := eq_true p958; replace q958 := eq_true q958; have p959 : 0 ≤ ((ji8) : Int) := of_decide_eq_true za; have q959 : (ji8) < (l0.length : Int) := of_decide_eq_true za; obtain ⟨ad959, e959, hx959_0⟩ := Kd.at_int HR0.out (ji8) p959 q959; obtain rfl : ad956 = ad959 := (by injection e959); replace p959 := eq_true p959; replace q959 := eq_true q959))
   repeat (go_quiet (first | (go_at_call 129; (try simp only [i64_w]); (with_reducible refine (spec_l01In.calls (rd l0 x5_1) 0 (wrap64 (a1 - 1)) true _ A5.out).mono ?_); rintro e w' ⟨rfl, ⟨nd, rfl⟩⟩; (try first | exact ⟨rfl, _, World.drewN_drewN _ _ _⟩ | exact ⟨rfl, _, Eq.trans (World.drewN_drewN _ _ _) (congrArg (World.drewN _) (Nat.add_assoc _ _ _))⟩); have p958 : 0 ≤ (x5_1 : Int) := of_decide_eq_true za; have q958 : x5_1 < (l0.length : Int) := of_decide_eq_true za; obtain ⟨ad958, e958, hx958_0⟩ := Kd.at_int HR0.out x5_1 p958 q958; obtain rfl : ad956 = ad958 := (by injection e958); replace p958 := eq_true p958; replace q958 := eq_true q958; have p959 : 0 ≤ ((ji8) : Int) := of_decide_eq_true za; have q959 : (ji8) < (l0.length : Int) := of_decide_eq_true za; obtain ⟨ad959, e959, hx959_0⟩ := Kd.at_int HR0.out (ji8) p959 q959; obtain rfl : ad956 = ad959 := (by injection e959); replace p959 := eq_true p959; replace q959 := eq_true q959)); try go_wp2_with (first | (go_at_call 129; (try simp only [i64_w]); (with_reducible refine (spec_l01In.calls (rd l0 x5_1) 0 (wrap64 (a1 - 1)) true _ A5.out).mono ?_); rintro e w' ⟨rfl, ⟨nd, rfl⟩⟩; (try first | exact ⟨rfl, _, World.drewN_drewN _ _ _⟩ | exact ⟨rfl, _, Eq.trans (World.drewN_drewN _ _ _) (congrArg (World.drewN _) (Nat.add_assoc _ _ _))⟩); have p958 : 0 ≤ (x5_1 : Int) := of_decide_eq_true za; have q958 : x5_1 < (l0.length : Int) := of_decide_eq_true za; obtain ⟨ad958, e958, hx958_0⟩ := Kd.at_int HR0.out x5_1 p958 q958; obtain rfl : ad956 = ad958 := (by injection e958); replace p958 := eq_true p958; replace q958 := eq_true q958; have p959 : 0 ≤ ((ji8) : Int) := of_decide_eq_true za; have q959 : (ji8) < (l0.length : Int) := of_decide_eq_true za; obtain ⟨ad959, e959, hx959_0⟩ := Kd.at_int HR0.out (ji8) p959 q959; obtain rfl : ad956 = ad959 := (by injection e959); replace p959 := eq_true p959; replace q959 := eq_true q959)))
   go_roundg k1
   case measure => have := HK1.out; omega
   case rel => exact ⟨(wrap64 (x5_1 + 1)), zr, H', ⟨by have := HK1.out; omega⟩, by repeat (first | exact Drawn0.refl _ | apply Drawn0.step)⟩
def spec_l10Code.f (k : Nat) (l0 : List (S59)) (l1 : List Int) : Option (Int) := (spec_IsRegion.f k l0).bind fun t960 => (if t960 = true then ((spec_l01Rises.f k l1 (l0.length : Int)).bind fun t961 => (if t961 = true then (some 0) else (some 2))) else (some 1))
theorem spec_l10Code.calls (k : Nat) (A0 : Option Addr) (c0 : Nat) (l0 : List (S59)) (A1 : Option Addr) (c1 : Nat) (l1 : List Int) (r : Int) (w : World) (hr0 : Kd.C k59 w A0 l0.length l0) (hc0 : l0.length ≤ c0) (hr1 : Kd.C (Kd.int .i64) w A1 l1.length l1) (hc1 : l1.length ≤ c1) (h : spec_l10Code.f k l0 l1 = some r) :
  Calls Try.prog 104 #[.slice A0 l0.length c0, .slice A1 l1.length c1] w fun e w' => e = .returned (.int .i64 r) ∧ Below w.heap.size w w' := by
 have HR0 := aM hr0
 have HC0 := aM hc0
 clear hr0 hc0
 have HR1 := aM hr1
 have HC1 := aM hc1
 clear hr1 hc1
 have HB := aM (Below.refl w.heap.size w)
 have H : ((spec_IsRegion.f k l0).bind fun t960 => (if t960 = true then ((spec_l01Rises.f k l1 (l0.length : Int)).bind fun t961 => (if t961 = true then (some 0) else (some 2))) else (some 1))) = some r := h
 clear h
 replace H := Option.bind_eq_some_iff.mp H
 obtain ⟨t960, A30, H⟩ := H
 replace H : (if t960 = true then ((spec_l01Rises.f k l1 (l0.length : Int)).bind fun t961 => (if t961 = true then (some 0) else (some 2))) else (some 1)) = some r := H
 have A3 := aM A30
 clear A30
 by_cases c4 : t960 = true
 rotate_left
 ·replace c4 := Bool.eq_false_iff.mpr c4
  subst c4
  have H1 : (some 1) = some r := by rw [if_neg (show ¬ (false = true) by decide)] at H; exact H
  clear H
  have H := H1
  clear H1
  obtain rfl := Option.some.inj H
  go_enter Try.func104, Try.ntmps104
  go_wp2_with (first | ((with_reducible refine gate_callee (f := 63) rfl ?_); refine goesL_ (some 6) rfl rfl Try.func63 (by kernel_rfl) rfl #[.slice A0 l0.length c0] rfl zm ?_; (with_reducible refine (spec_IsRegion.calls k _ _ l0 false _ ?side1 ?side2 A3.out).mono ?_); (case side1 => repeat (first | exact HR0.out | (with_reducible refine Kd.C_alloc ?_ _) | (with_reducible refine Kd.C_drewN ?_ _) | (with_reducible refine Kd.C_drew ?_))); (case side2 => exact HC0.out); rintro e w9 ⟨rfl, hb⟩; refine ⟨_, rfl, ?_⟩; have n0_ := aM (below_step zb hb); clear HB; have HB := n0_; clear n0_; (try clear hb); (try clear hb2); (try clear hk); (try clear hi)))
  go_ret
  exact ⟨zw, zb⟩
 subst c4
 have H1 : ((spec_l01Rises.f k l1 (l0.length : Int)).bind fun t961 => (if t961 = true then (some 0) else (some 2))) = some r := by rw [if_pos rfl] at H; exact H
 clear H
 have H := H1
 clear H1
 replace H := Option.bind_eq_some_iff.mp H
 obtain ⟨t961, A50, H⟩ := H
 replace H : (if t961 = true then (some 0) else (some 2)) = some r := H
 have A5 := aM A50
 clear A50
 by_cases c6 : t961 = true
 ·subst c6
  have H1 : (some 0) = some r := by rw [if_pos rfl] at H; exact H
  clear H
  have H := H1
  clear H1
  obtain rfl := Option.some.inj H
  go_enter Try.func104, Try.ntmps104
  go_wp2_with (first | ((with_reducible refine gate_callee (f := 63) rfl ?_); refine goesL_ (some 6) rfl rfl Try.func63 (by kernel_rfl) rfl #[.slice A0 l0.length c0] rfl zm ?_; (with_reducible refine (spec_IsRegion.calls k _ _ l0 true _ ?side1 ?side2 A3.out).mono ?_); (case side1 => repeat (first | exact HR0.out | (with_reducible refine Kd.C_alloc ?_ _) | (with_reducible refine Kd.C_drewN ?_ _) | (with_reducible refine Kd.C_drew ?_))); (case side2 => exact HC0.out); rintro e w7 ⟨rfl, hb⟩; refine ⟨_, rfl, ?_⟩; have n0_ := aM (below_step zb hb); clear HB; have HB := n0_; clear n0_; (try clear hb); (try clear hb2); (try clear hk); (try clear hi)) | ((with_reducible refine gate_callee (f := 117) rfl ?_); refine goesL_ (some 11) rfl rfl Try.func117 (by kernel_rfl) rfl #[.slice A1 l1.length c1, .int .i64 (l0.length : Int)] rfl zm ?_; (with_reducible refine (spec_l01Rises.calls k _ _ l1 (l0.length : Int) true _ ?side1 ?side2 A5.out).mono ?_); (case side1 => repeat (first | exact (Kd.C_below HR1.out HB.out) | (with_reducible refine Kd.C_alloc ?_ _) | (with_reducible refine Kd.C_drewN ?_ _) | (with_reducible refine Kd.C_drew ?_))); (case side2 => exact HC1.out); rintro e w' ⟨rfl, ⟨nd, rfl⟩⟩; refine ⟨_, rfl, ?_⟩))
  go_ret
  exact ⟨zw, zb⟩
 replace c6 := Bool.eq_false_iff.mpr c6
 subst c6
 have H1 : (some 2) = some r := by rw [if_neg (show ¬ (false = true) by decide)] at H; exact H
 clear H
 have H := H1
 clear H1
 obtain rfl := Option.some.inj H
 go_enter Try.func104, Try.ntmps104
 go_wp2_with (first | ((with_reducible refine gate_callee (f := 63) rfl ?_); refine goesL_ (some 6) rfl rfl Try.func63 (by kernel_rfl) rfl #[.slice A0 l0.length c0] rfl zm ?_; (with_reducible refine (spec_IsRegion.calls k _ _ l0 true _ ?side1 ?side2 A3.out).mono ?_); (case side1 => repeat (first | exact HR0.out | (with_reducible refine Kd.C_alloc ?_ _) | (with_reducible refine Kd.C_drewN ?_ _) | (with_reducible refine Kd.C_drew ?_))); (case side2 => exact HC0.out); rintro e w8 ⟨rfl, hb⟩; refine ⟨_, rfl, ?_⟩; have n0_ := aM (below_step zb hb); clear HB; have HB := n0_; clear n0_; (try clear hb); (try clear hb2); (try clear hk); (try clear hi)) | ((with_reducible refine gate_callee (f := 117) rfl ?_); refine goesL_ (some 11) rfl rfl Try.func117 (by kernel_rfl) rfl #[.slice A1 l1.length c1, .int .i64 (l0.length : Int)] rfl zm ?_; (with_reducible refine (spec_l01Rises.calls k _ _ l1 (l0.length : Int) false _ ?side1 ?side2 A5.out).mono ?_); (case side1 => repeat (first | exact (Kd.C_below HR1.out HB.out) | (with_reducible refine Kd.C_alloc ?_ _) | (with_reducible refine Kd.C_drewN ?_ _) | (with_reducible refine Kd.C_drew ?_))); (case side2 => exact HC1.out); rintro e w' ⟨rfl, ⟨nd, rfl⟩⟩; refine ⟨_, rfl, ?_⟩))
 go_ret
 exact ⟨zw, zb⟩
def spec_l10Rest.l0 : Nat → List (S59) → List Int → List (S59) → Int → Option ((List (S59)))
 | 0, _, _, _, _ => none
 | k + 1, x0, x1, x5, x6 => if x6 < (x0.length : Int) then ((spec_l01Has.f k x1 x6).bind fun t976 => (if t976 = true then (spec_l10Rest.l0 k x0 x1 x5 (wrap64 (x6 + 1))) else (if 0 ≤ x6 then (if x5.length < 8796093022208 then (spec_l10Rest.l0 k x0 x1 (x5 ++ [(⟨(rd_T59 x0 x6).f0, (rd_T59 x0 x6).f1⟩ : S59)]) (wrap64 (x6 + 1))) else (none)) else (none)))) else (some x5)
def spec_l10Rest.f (k : Nat) (l0 : List (S59)) (l1 : List Int) : Option ((List (S59))) := spec_l10Rest.l0 k l0 l1 (([] : List (S59))) 0
theorem spec_l10Rest.calls (k : Nat) (A0 : Option Addr) (c0 : Nat) (l0 : List (S59)) (A1 : Option Addr) (c1 : Nat) (l1 : List Int) (r : List (S59)) (w : World) (hr0 : Kd.C k59 w A0 l0.length l0) (hc0 : l0.length ≤ c0) (hr1 : Kd.C (Kd.int .i64) w A1 l1.length l1) (hc1 : l1.length ≤ c1) (h : spec_l10Rest.f k l0 l1 = some r) :
  Calls Try.prog 106 #[.slice A0 l0.length c0, .slice A1 l1.length c1] w fun e w' => ∃ v0_ : Value, e = .returned (v0_) ∧ Kd.R k59 59 w' w.heap.size (fun _ => True) v0_ r ∧ Below w.heap.size w w' := by
 have hu59 := Try.underlying59
 have HR0 := aM hr0
 have HC0 := aM hc0
 clear hr0 hc0
 have HR1 := aM hr1
 have HC1 := aM hc1
 clear hr1 hc1
 have HB := aM (Below.refl w.heap.size w)
 have H : (spec_l10Rest.l0 k l0 l1 (([] : List (S59))) 0) = some r := h
 clear h
 obtain ⟨y973, hy973⟩ : ∃ y_ : List (S59), y_ = (([] : List (S59))) := ⟨_, rfl⟩
 replace H : (spec_l10Rest.l0 k l0 l1 y973 0) = some r := zy H hy973
 have Ny973 := aM hy973
 clear hy973
 have H' := aM H
 clear H
 go_enter Try.func106, Try.ntmps106
 go_wp2_with (first | ((with_reducible refine gate_dst (N := 7) rfl ?_); refine Kd.R_lit k59 _ 59 ?hg (N := 7) ?hd (xs := ([] : List (S59))) (inner := []) (ok := fun _ => True) (okp := fun _ => True) ?hr ?hp (fun _ hk => hk) trivial (Below.refl _ _) (Nat.le_refl _) (by simp) ?_; (case hd => rfl); (case hg => rfl); (case hr => first | (go_simp; done) | (go_simp; rfl)); (case hp => exact (Reps.none _ _)); intro v974 w3 ho4 hb hg_ hnew_; clear hg_ hnew_; (first | rw [← Ny973.out] at ho4 | (simp only [Int.reduceToNat] at ho4; rw [← Ny973.out] at ho4)); have n0_ := aM (Kd.R_lower ho4 (below_size zb)); have n1_ := aM (below_step zb hb); clear HB; have HO975 := n0_; have HB := n1_; clear n0_ n1_; clear hb ho4))
 go_loopg [5, 6] k (fun kq v5 v6 w' => ∃ (x5_1 : List (S59)) (x6_1 : Int), v6 = .int .i64 x6_1 ∧ Aside0 (spec_l10Rest.l0 kq l0 l1 x5_1 x6_1 = some r) ∧ Aside0 (kq ≤ k) ∧ Aside0 (Kd.R k59 59 w' w.heap.size (fun _ => True) v5 x5_1) ∧ Aside0 (Below w.heap.size w w'))
 case atStart => exact ⟨(y973), (0), zr, H', ⟨Nat.le_refl _⟩, ⟨mR_ HO975.out⟩, ⟨zb⟩⟩
 case round =>
  clear H'
  try clear c1
  try clear p2
  obtain ⟨x5_1, x6_1, rfl, HA, HK1, HO_5, HB⟩ := hrel
  cases gk with
  | zero => exact absurd HA.out (by simp [spec_l10Rest.l0])
  | succ k1 =>
   have H := HA.out
   clear HA
   simp only [spec_l10Rest.l0] at H
   by_cases c5 : x6_1 < (l0.length : Int)
   rotate_left
   ·rw [if_neg c5] at H
    have c5b0 : decide (x6_1 < (l0.length : Int)) = false := decide_eq_false c5
    clear c5
    obtain rfl := Option.some.inj H
    go_wp2
    go_ret
    exact ⟨_, zw, mR_ HO_5.out, zb⟩
   rw [if_pos c5] at H
   have c5b0 : decide (x6_1 < (l0.length : Int)) = true := decide_eq_true c5
   clear c5
   replace H := Option.bind_eq_some_iff.mp H
   obtain ⟨t976, A60, H⟩ := H
   replace H : (if t976 = true then (spec_l10Rest.l0 k1 l0 l1 x5_1 (wrap64 (x6_1 + 1))) else (if 0 ≤ x6_1 then (if x5_1.length < 8796093022208 then (spec_l10Rest.l0 k1 l0 l1 (x5_1 ++ [(⟨(rd_T59 l0 x6_1).f0, (rd_T59 l0 x6_1).f1⟩ : S59)]) (wrap64 (x6_1 + 1))) else (none)) else (none))) = some r := H
   have A6 := aM A60
   clear A60
   by_cases c7 : t976 = true
   ·subst c7
    have H1 : (spec_l10Rest.l0 k1 l0 l1 x5_1 (wrap64 (x6_1 + 1))) = some r := by rw [if_pos rfl] at H; exact H
    clear H
    have H := H1
    clear H1
    have H' := aM H
    clear H
    go_wp2_with (first | ((with_reducible refine gate_callee (f := 132) rfl ?_); refine goesL_ (some 16) rfl rfl Try.func132 (by kernel_rfl) rfl #[.slice A1 l1.length c1, .int .i64 x6_1] rfl zm ?_; (with_reducible refine (spec_l01Has.calls k1 _ _ l1 x6_1 true _ ?side1 ?side2 A6.out).mono ?_); (case side1 => repeat (first | exact (Kd.C_below HR1.out HB.out) | (with_reducible refine Kd.C_alloc ?_ _) | (with_reducible refine Kd.C_drewN ?_ _) | (with_reducible refine Kd.C_drew ?_))); (case side2 => exact HC1.out); rintro e w' ⟨rfl, ⟨nd, rfl⟩⟩; refine ⟨_, rfl, ?_⟩))
    go_roundg k1
    case measure => have := HK1.out; omega
    case rel => exact ⟨(x5_1), (wrap64 (x6_1 + 1)), zr, H', ⟨by have := HK1.out; omega⟩, ⟨mR_ HO_5.out⟩, ⟨zb⟩⟩
   replace c7 := Bool.eq_false_iff.mpr c7
   subst c7
   have H1 : (if 0 ≤ x6_1 then (if x5_1.length < 8796093022208 then (spec_l10Rest.l0 k1 l0 l1 (x5_1 ++ [(⟨(rd_T59 l0 x6_1).f0, (rd_T59 l0 x6_1).f1⟩ : S59)]) (wrap64 (x6_1 + 1))) else (none)) else (none)) = some r := by rw [if_neg (show ¬ (false = true) by decide)] at H; exact H
   clear H
   have H := H1
   clear H1
   by_cases c8 : 0 ≤ x6_1
   rotate_left
   ·rw [if_neg c8] at H
    exact absurd H (by simp)
   rw [if_pos c8] at H
   have c8b0 : decide (0 ≤ x6_1) = true := decide_eq_true c8
   clear c8
   by_cases c9 : x5_1.length < 8796093022208
   rotate_left
   ·rw [if_neg c9] at H
    exact absurd H (by simp)
   rw [if_pos c9] at H
   have LMc9 := aM c9
   clear c9
   obtain ⟨y978, hy978⟩ : ∃ y_ : List (S59), y_ = (x5_1 ++ [(⟨(rd_T59 l0 x6_1).f0, (rd_T59 l0 x6_1).f1⟩ : S59)]) := ⟨_, rfl⟩
   replace H : (spec_l10Rest.l0 k1 l0 l1 y978 (wrap64 (x6_1 + 1))) = some r := zy H hy978
   have Ny978 := aM hy978
   clear hy978
   have H' := aM H
   clear H
   go_wp2_with (first | ((with_reducible refine gate_callee (f := 132) rfl ?_); refine goesL_ (some 16) rfl rfl Try.func132 (by kernel_rfl) rfl #[.slice A1 l1.length c1, .int .i64 x6_1] rfl zm ?_; (with_reducible refine (spec_l01Has.calls k1 _ _ l1 x6_1 false _ ?side1 ?side2 A6.out).mono ?_); (case side1 => repeat (first | exact (Kd.C_below HR1.out HB.out) | (with_reducible refine Kd.C_alloc ?_ _) | (with_reducible refine Kd.C_drewN ?_ _) | (with_reducible refine Kd.C_drew ?_))); (case side2 => exact HC1.out); rintro e w' ⟨rfl, ⟨nd, rfl⟩⟩; refine ⟨_, rfl, ?_⟩; have p977 : 0 ≤ (x6_1 : Int) := of_decide_eq_true za; have q977 : x6_1 < (l0.length : Int) := of_decide_eq_true za; obtain ⟨ad977, e977, hx977_0, hx977_1⟩ := at_T59 HR0.out x6_1 p977 q977; cases e977; replace hx977_0 := (HB.out.cell (World.block_lt_of_cell? w _ hx977_0)).trans hx977_0; replace hx977_1 := (HB.out.cell (World.block_lt_of_cell? w _ hx977_1)).trans hx977_1; replace p977 := eq_true p977; replace q977 := eq_true q977) | ((with_reducible refine gate_builtin (b := .append) (xs := #[.tmp 18, .tmp 23]) rfl ?_); at_builtin; refine Kd.R_append k59 (w0 := w) w.heap.size rfl (.tmp 18) (.tmp 23) 43 59 (.agg #[(.int .i64 0), (.int .i64 0)]) 16 rfl Try.underlying43 info59 rfl (by decide) (by omega) u5 x5_1 (⟨(rd_T59 l0 x6_1).f0, (rd_T59 l0 x6_1).f1⟩ : S59) [.int .i64 ((rd_T59 l0 x6_1).f0), .int .i64 ((rd_T59 l0 x6_1).f1)] (fun _ => True) (fun _ => False) rfl rfl ?aP (fun _ hk => hk.elim) ?aF ?aO ?aB ?aS ?aL ?_; (case aP => exact k59_mkM _ _ _ (⟨(rd_T59 l0 x6_1).f0, (rd_T59 l0 x6_1).f1⟩ : S59)); (case aB => exact zb); (case aF => exact (fun _ _ => trivial)); (case aO => exact (mR_ HO_5.out)); (case aS => exact (below_size zb)); (case aL => have := LMc9.out; omega); intro v979 w10 ho hb hg hat; rw [← Ny978.out] at ho; have n0_ := aM (hb); have n1_ := aM (ho); clear HB; clear HO_5; have HB := n0_; have HO980 := n1_; clear n0_ n1_; clear ho hb hg hat))
   go_roundg k1
   case measure => have := HK1.out; omega
   case rel => exact ⟨(y978), (wrap64 (x6_1 + 1)), zr, H', ⟨by have := HK1.out; omega⟩, ⟨mR_ HO980.out⟩, ⟨zb⟩⟩
def impl_IsRegion.f (k : Nat) (l0 : List (S59)) : Option (Bool) := (impl_IsShape.f k l0).bind fun t988 => (if t988 = true then ((impl_corner.f k l0).bind fun bt989 => (if (!(bt989.1 == 0) || (!(bt989.2 == 0))) = true then (some false) else ((impl_reach.f k l0).bind fun bt991 => (if bt991.1 < 20 then (some (decide (bt991.2 < 20))) else (some false))))) else (some false))
theorem impl_IsRegion.calls (k : Nat) (A0 : Option Addr) (c0 : Nat) (l0 : List (S59)) (r : Bool) (w : World) (hr0 : Kd.C k59 w A0 l0.length l0) (hc0 : l0.length ≤ c0) (h : impl_IsRegion.f k l0 = some r) :
  Calls Try.prog 62 #[.slice A0 l0.length c0] w fun e w' => e = .returned (.bool r) ∧ Below w.heap.size w w' := by
 have hu59 := Try.underlying59
 have HR0 := aM hr0
 have HC0 := aM hc0
 clear hr0 hc0
 have HB := aM (Below.refl w.heap.size w)
 have H : ((impl_IsShape.f k l0).bind fun t988 => (if t988 = true then ((impl_corner.f k l0).bind fun bt989 => (if (!(bt989.1 == 0) || (!(bt989.2 == 0))) = true then (some false) else ((impl_reach.f k l0).bind fun bt991 => (if bt991.1 < 20 then (some (decide (bt991.2 < 20))) else (some false))))) else (some false))) = some r := h
 clear h
 replace H := Option.bind_eq_some_iff.mp H
 obtain ⟨t988, A20, H⟩ := H
 replace H : (if t988 = true then ((impl_corner.f k l0).bind fun bt989 => (if (!(bt989.1 == 0) || (!(bt989.2 == 0))) = true then (some false) else ((impl_reach.f k l0).bind fun bt991 => (if bt991.1 < 20 then (some (decide (bt991.2 < 20))) else (some false))))) else (some false)) = some r := H
 have A2 := aM A20
 clear A20
 by_cases c3 : t988 = true
 rotate_left
 ·replace c3 := Bool.eq_false_iff.mpr c3
  subst c3
  have H1 : (some false) = some r := by rw [if_neg (show ¬ (false = true) by decide)] at H; exact H
  clear H
  have H := H1
  clear H1
  obtain rfl := Option.some.inj H
  go_enter Try.func62, Try.ntmps62
  go_wp2_with (first | ((with_reducible refine gate_callee (f := 90) rfl ?_); refine goesL_ (some 5) rfl rfl Try.func90 (by kernel_rfl) rfl #[.slice A0 l0.length c0] rfl zm ?_; (with_reducible refine (impl_IsShape.calls k _ _ l0 false _ ?side1 ?side2 A2.out).mono ?_); (case side1 => repeat (first | exact HR0.out | (with_reducible refine Kd.C_alloc ?_ _) | (with_reducible refine Kd.C_drewN ?_ _) | (with_reducible refine Kd.C_drew ?_))); (case side2 => exact HC0.out); rintro e w20 ⟨rfl, hb⟩; refine ⟨_, rfl, ?_⟩; have n0_ := aM (below_step zb hb); clear HB; have HB := n0_; clear n0_; (try clear hb); (try clear hb2); (try clear hk); (try clear hi)))
  go_ret
  exact ⟨zw, zb⟩
 subst c3
 have H1 : ((impl_corner.f k l0).bind fun bt989 => (if (!(bt989.1 == 0) || (!(bt989.2 == 0))) = true then (some false) else ((impl_reach.f k l0).bind fun bt991 => (if bt991.1 < 20 then (some (decide (bt991.2 < 20))) else (some false))))) = some r := by rw [if_pos rfl] at H; exact H
 clear H
 have H := H1
 clear H1
 replace H := Option.bind_eq_some_iff.mp H
 obtain ⟨⟨t989, t990⟩, A40, H⟩ := H
 replace H : (if (!(t989 == 0) || (!(t990 == 0))) = true then (some false) else ((impl_reach.f k l0).bind fun bt991 => (if bt991.1 < 20 then (some (decide (bt991.2 < 20))) else (some false)))) = some r := H
 have A4 := aM A40
 clear A40
 by_cases c5 : (!(t989 == 0) || (!(t990 == 0))) = true
 ·rw [if_pos c5] at H
  have c5b0 : (!(t989 == 0) || (!(t990 == 0))) = true := c5
  clear c5
  obtain rfl := Option.some.inj H
  go_enter Try.func62, Try.ntmps62
  go_wp2_with (first | ((with_reducible refine gate_callee (f := 90) rfl ?_); refine goesL_ (some 5) rfl rfl Try.func90 (by kernel_rfl) rfl #[.slice A0 l0.length c0] rfl zm ?_; (with_reducible refine (impl_IsShape.calls k _ _ l0 true _ ?side1 ?side2 A2.out).mono ?_); (case side1 => repeat (first | exact HR0.out | (with_reducible refine Kd.C_alloc ?_ _) | (with_reducible refine Kd.C_drewN ?_ _) | (with_reducible refine Kd.C_drew ?_))); (case side2 => exact HC0.out); rintro e w6 ⟨rfl, hb⟩; refine ⟨_, rfl, ?_⟩; have n0_ := aM (below_step zb hb); clear HB; have HB := n0_; clear n0_; (try clear hb); (try clear hb2); (try clear hk); (try clear hi)) | (go_at_call 123; (with_reducible refine (impl_corner.calls k _ _ l0 t989 t990 _ ?side1 ?side2 A4.out).mono ?_); (case side1 => repeat (first | exact (Kd.C_below HR0.out HB.out) | (with_reducible refine Kd.C_alloc ?_ _) | (with_reducible refine Kd.C_drewN ?_ _) | (with_reducible refine Kd.C_drew ?_))); (case side2 => exact HC0.out); rintro e w7 ⟨rfl, hb⟩; have n0_ := aM (below_step zb hb); clear HB; have HB := n0_; clear n0_; (try clear hb); (try clear hb2); (try clear hk); (try clear hi)))
  go_ret
  exact ⟨zw, zb⟩
 rw [if_neg c5] at H
 have c5b0 : (!(t989 == 0) || (!(t990 == 0))) = false := by simpa using c5
 clear c5
 replace H := Option.bind_eq_some_iff.mp H
 obtain ⟨⟨t991, t992⟩, A80, H⟩ := H
 replace H : (if t991 < 20 then (some (decide (t992 < 20))) else (some false)) = some r := H
 have A8 := aM A80
 clear A80
 by_cases c9 : t991 < 20
 ·rw [if_pos c9] at H
  have c9b0 : decide (t991 < 20) = true := decide_eq_true c9
  clear c9
  obtain rfl := Option.some.inj H
  go_enter Try.func62, Try.ntmps62
  go_wp2_with (first | ((with_reducible refine gate_callee (f := 90) rfl ?_); refine goesL_ (some 5) rfl rfl Try.func90 (by kernel_rfl) rfl #[.slice A0 l0.length c0] rfl zm ?_; (with_reducible refine (impl_IsShape.calls k _ _ l0 true _ ?side1 ?side2 A2.out).mono ?_); (case side1 => repeat (first | exact HR0.out | (with_reducible refine Kd.C_alloc ?_ _) | (with_reducible refine Kd.C_drewN ?_ _) | (with_reducible refine Kd.C_drew ?_))); (case side2 => exact HC0.out); rintro e w10 ⟨rfl, hb⟩; refine ⟨_, rfl, ?_⟩; have n0_ := aM (below_step zb hb); clear HB; have HB := n0_; clear n0_; (try clear hb); (try clear hb2); (try clear hk); (try clear hi)) | (go_at_call 123; (with_reducible refine (impl_corner.calls k _ _ l0 t989 t990 _ ?side1 ?side2 A4.out).mono ?_); (case side1 => repeat (first | exact (Kd.C_below HR0.out HB.out) | (with_reducible refine Kd.C_alloc ?_ _) | (with_reducible refine Kd.C_drewN ?_ _) | (with_reducible refine Kd.C_drew ?_))); (case side2 => exact HC0.out); rintro e w11 ⟨rfl, hb⟩; have n0_ := aM (below_step zb hb); clear HB; have HB := n0_; clear n0_; (try clear hb); (try clear hb2); (try clear hk); (try clear hi)) | ((with_reducible refine gate_callee (f := 124) rfl ?_); refine goesL_ (some 14) rfl rfl Try.func124 (by kernel_rfl) rfl #[.slice A0 l0.length c0] rfl zm ?_; (with_reducible refine (impl_reach.calls k _ _ l0 t991 t992 _ ?side1 ?side2 A8.out).mono ?_); (case side1 => repeat (first | exact (Kd.C_below HR0.out HB.out) | (with_reducible refine Kd.C_alloc ?_ _) | (with_reducible refine Kd.C_drewN ?_ _) | (with_reducible refine Kd.C_drew ?_))); (case side2 => exact HC0.out); rintro e w12 ⟨rfl, hb⟩; refine ⟨_, rfl, ?_⟩; have n0_ := aM (below_step zb hb); clear HB; have HB := n0_; clear n0_; (try clear hb); (try clear hb2); (try clear hk); (try clear hi)) | ((with_reducible refine gate_dst (N := 3) rfl ?_); refine box_event ?hg (N := 3) ?hd (cs := #[.int .i64 0, .int .i64 0]) (t := 59) ?hr ?_; (case hd => rfl); (case hg => rfl); (case hr => first | (go_simp; done) | (go_simp; rfl)); intro gb993 hg w13 hbox hb; have n0_ := aM (below_step zb hb); have n1_ := aM (hbox); have n2_ := aM ((ze : w.heap.size ≤ gb993)); have n3_ := aM ((ze : w.heap.size ≤ gb993)); clear HB; have HB := n0_; have BK993 := n1_; have GW993 := n2_; have GE993 := n3_; clear n0_ n1_ n2_ n3_; clear hb hbox hg; have hcz14_0 : w13.cell? ⟨gb993, 0, none⟩ = some (.int .i64 0) := (blk_cell BK993.out 0).trans rfl; have hcz14_1 : w13.cell? ⟨gb993, 1, none⟩ = some (.int .i64 0) := (blk_cell BK993.out 1).trans rfl; have hfz14_0 := blk_frozen BK993.out 0; have hfz14_1 := blk_frozen BK993.out 1))
  go_ret
  exact ⟨zw, zs GE993.out⟩
 rw [if_neg c9] at H
 have c9b0 : decide (t991 < 20) = false := decide_eq_false c9
 clear c9
 obtain rfl := Option.some.inj H
 go_enter Try.func62, Try.ntmps62
 go_wp2_with (first | ((with_reducible refine gate_callee (f := 90) rfl ?_); refine goesL_ (some 5) rfl rfl Try.func90 (by kernel_rfl) rfl #[.slice A0 l0.length c0] rfl zm ?_; (with_reducible refine (impl_IsShape.calls k _ _ l0 true _ ?side1 ?side2 A2.out).mono ?_); (case side1 => repeat (first | exact HR0.out | (with_reducible refine Kd.C_alloc ?_ _) | (with_reducible refine Kd.C_drewN ?_ _) | (with_reducible refine Kd.C_drew ?_))); (case side2 => exact HC0.out); rintro e w15 ⟨rfl, hb⟩; refine ⟨_, rfl, ?_⟩; have n0_ := aM (below_step zb hb); clear HB; have HB := n0_; clear n0_; (try clear hb); (try clear hb2); (try clear hk); (try clear hi)) | (go_at_call 123; (with_reducible refine (impl_corner.calls k _ _ l0 t989 t990 _ ?side1 ?side2 A4.out).mono ?_); (case side1 => repeat (first | exact (Kd.C_below HR0.out HB.out) | (with_reducible refine Kd.C_alloc ?_ _) | (with_reducible refine Kd.C_drewN ?_ _) | (with_reducible refine Kd.C_drew ?_))); (case side2 => exact HC0.out); rintro e w16 ⟨rfl, hb⟩; have n0_ := aM (below_step zb hb); clear HB; have HB := n0_; clear n0_; (try clear hb); (try clear hb2); (try clear hk); (try clear hi)) | ((with_reducible refine gate_callee (f := 124) rfl ?_); refine goesL_ (some 14) rfl rfl Try.func124 (by kernel_rfl) rfl #[.slice A0 l0.length c0] rfl zm ?_; (with_reducible refine (impl_reach.calls k _ _ l0 t991 t992 _ ?side1 ?side2 A8.out).mono ?_); (case side1 => repeat (first | exact (Kd.C_below HR0.out HB.out) | (with_reducible refine Kd.C_alloc ?_ _) | (with_reducible refine Kd.C_drewN ?_ _) | (with_reducible refine Kd.C_drew ?_))); (case side2 => exact HC0.out); rintro e w17 ⟨rfl, hb⟩; refine ⟨_, rfl, ?_⟩; have n0_ := aM (below_step zb hb); clear HB; have HB := n0_; clear n0_; (try clear hb); (try clear hb2); (try clear hk); (try clear hi)) | ((with_reducible refine gate_dst (N := 3) rfl ?_); refine box_event ?hg (N := 3) ?hd (cs := #[.int .i64 0, .int .i64 0]) (t := 59) ?hr ?_; (case hd => rfl); (case hg => rfl); (case hr => first | (go_simp; done) | (go_simp; rfl)); intro gb993 hg w18 hbox hb; have n0_ := aM (below_step zb hb); have n1_ := aM (hbox); have n2_ := aM ((ze : w.heap.size ≤ gb993)); have n3_ := aM ((ze : w.heap.size ≤ gb993)); clear HB; have HB := n0_; have BK993 := n1_; have GW993 := n2_; have GE993 := n3_; clear n0_ n1_ n2_ n3_; clear hb hbox hg; have hcz19_0 : w18.cell? ⟨gb993, 0, none⟩ = some (.int .i64 0) := (blk_cell BK993.out 0).trans rfl; have hcz19_1 : w18.cell? ⟨gb993, 1, none⟩ = some (.int .i64 0) := (blk_cell BK993.out 1).trans rfl; have hfz19_0 := blk_frozen BK993.out 0; have hfz19_1 := blk_frozen BK993.out 1))
 go_ret
 exact ⟨zw, zs GE993.out⟩
def impl_isIncreasing.l0 : Nat → List Int → Int → List Int → Int → Int → Option (Bool)
 | 0, _, _, _, _, _ => none
 | k + 1, x0, x1, x7, x8, x9 => if x9 < x8 then (if 0 ≤ x9 then (if x9 < (x7.length : Int) then ((impl_within.f (rd x7 x9) 0 (wrap64 (x1 - 1))).bind fun t995 => (if t995 = true then (if x9 > 0 then (if 0 ≤ (wrap64 (x9 - 1)) then (if (wrap64 (x9 - 1)) < (x0.length : Int) then (if (rd x7 x9) ≤ (rd x0 (wrap64 (x9 - 1))) then (some false) else (impl_isIncreasing.l0 k x0 x1 x7 x8 (wrap64 (x9 + 1)))) else (none)) else (none)) else (impl_isIncreasing.l0 k x0 x1 x7 x8 (wrap64 (x9 + 1)))) else (some false))) else (none)) else (none)) else (some true)
def impl_isIncreasing.f (k : Nat) (l0 : List Int) (a1 : Int) : Option (Bool) := impl_isIncreasing.l0 k l0 a1 l0 (l0.length : Int) 0
theorem impl_isIncreasing.calls (k : Nat) (A0 : Option Addr) (c0 : Nat) (l0 : List Int) (a1 : Int) (r : Bool) (w : World) (hr0 : Kd.C (Kd.int .i64) w A0 l0.length l0) (hc0 : l0.length ≤ c0) (h : impl_isIncreasing.f k l0 a1 = some r) :
  Calls Try.prog 148 #[.slice A0 l0.length c0, .int .i64 a1] w fun e w' => e = .returned (.bool r) ∧ Drawn0 w w' := by
 have HR0 := aM hr0
 have HC0 := aM hc0
 clear hr0 hc0
 have H : (impl_isIncreasing.l0 k l0 a1 l0 (l0.length : Int) 0) = some r := h
 clear h
 have H' := aM H
 clear H
 go_enter Try.func148, Try.ntmps148
 go_wp2
 go_loopg [9] k (fun kq v9 w' => ∃ (x9_1 : Int), v9 = .int .i64 x9_1 ∧ Aside0 (impl_isIncreasing.l0 kq l0 a1 l0 (l0.length : Int) x9_1 = some r) ∧ Aside0 (kq ≤ k) ∧ Drawn0 w w')
 case atStart => exact ⟨(0), zr, H', ⟨Nat.le_refl _⟩, by repeat (first | exact Drawn0.refl _ | apply Drawn0.step)⟩
 case round =>
  clear H'
  try clear c1
  try clear p2
  obtain ⟨x9_1, rfl, HA, HK1, ⟨m1, rfl⟩⟩ := hrel
  cases gk with
  | zero => exact absurd HA.out (by simp [impl_isIncreasing.l0])
  | succ k1 =>
   have H := HA.out
   clear HA
   simp only [impl_isIncreasing.l0] at H
   by_cases c3 : x9_1 < (l0.length : Int)
   rotate_left
   ·rw [if_neg c3] at H
    have c3b0 : decide (x9_1 < (l0.length : Int)) = false := decide_eq_false c3
    clear c3
    obtain rfl := Option.some.inj H
    go_wp2
    go_ret
    exact ⟨by first | rfl | (simp; done) | (simp [*]; done), by repeat (first | exact Drawn0.refl _ | apply Drawn0.step)⟩
   rw [if_pos c3] at H
   have c3b0 : decide (x9_1 < (l0.length : Int)) = true := decide_eq_true c3
   clear c3
   by_cases c4 : 0 ≤ x9_1
   rotate_left
   ·rw [if_neg c4] at H
    exact absurd H (by simp)
   rw [if_pos c4] at H
   have c4b0 : decide (0 ≤ x9_1) = true := decide_eq_true c4
   clear c4
   by_cases c5 : x9_1 < (l0.length : Int)
   rotate_left
   ·rw [if_neg c5] at H
    exact absurd H (by simp)
   rw [if_pos c5] at H
   have c5b0 : decide (x9_1 < (l0.length : Int)) = true := decide_eq_true c5
   clear c5
   replace H := Option.bind_eq_some_iff.mp H
   obtain ⟨t995, A60, H⟩ := H
   replace H : (if t995 = true then (if x9_1 > 0 then (if 0 ≤ (wrap64 (x9_1 - 1)) then (if (wrap64 (x9_1 - 1)) < (l0.length : Int) then (if (rd l0 x9_1) ≤ (rd l0 (wrap64 (x9_1 - 1))) then (some false) else (impl_isIncreasing.l0 k1 l0 a1 l0 (l0.length : Int) (wrap64 (x9_1 + 1)))) else (none)) else (none)) else (impl_isIncreasing.l0 k1 l0 a1 l0 (l0.length : Int) (wrap64 (x9_1 + 1)))) else (some false)) = some r := H
   have A6 := aM A60
   clear A60
   by_cases c7 : t995 = true
   rotate_left
   ·replace c7 := Bool.eq_false_iff.mpr c7
    subst c7
    have H1 : (some false) = some r := by rw [if_neg (show ¬ (false = true) by decide)] at H; exact H
    clear H
    have H := H1
    clear H1
    obtain rfl := Option.some.inj H
    have p994 : 0 ≤ (x9_1 : Int) := of_decide_eq_true za
    have q994 : x9_1 < (l0.length : Int) := of_decide_eq_true za
    obtain ⟨ad994, e994, hx994_0⟩ := Kd.at_int HR0.out x9_1 p994 q994
    cases e994
    replace p994 := eq_true p994
    replace q994 := eq_true q994
    go_wp2_with (first | ((with_reducible refine gate_callee (f := 128) rfl ?_); refine goesL_ (some 17) rfl rfl Try.func128 (by kernel_rfl) rfl #[.int .i64 (rd l0 x9_1), .int .i64 0, .int .i64 (wrap64 (a1 - 1))] rfl zm ?_; (with_reducible refine (impl_within.calls (rd l0 x9_1) 0 (wrap64 (a1 - 1)) false _ A6.out).mono ?_); rintro e w' ⟨rfl, ⟨nd, rfl⟩⟩; refine ⟨_, rfl, ?_⟩))
    go_ret
    exact ⟨by first | rfl | (simp; done) | (simp [*]; done), by repeat (first | exact Drawn0.refl _ | apply Drawn0.step)⟩
   subst c7
   have H1 : (if x9_1 > 0 then (if 0 ≤ (wrap64 (x9_1 - 1)) then (if (wrap64 (x9_1 - 1)) < (l0.length : Int) then (if (rd l0 x9_1) ≤ (rd l0 (wrap64 (x9_1 - 1))) then (some false) else (impl_isIncreasing.l0 k1 l0 a1 l0 (l0.length : Int) (wrap64 (x9_1 + 1)))) else (none)) else (none)) else (impl_isIncreasing.l0 k1 l0 a1 l0 (l0.length : Int) (wrap64 (x9_1 + 1)))) = some r := by rw [if_pos rfl] at H; exact H
   clear H
   have H := H1
   clear H1
   by_cases c8 : x9_1 > 0
   rotate_left
   ·rw [if_neg c8] at H
    have c8b0 : decide (0 < x9_1) = false := decide_eq_false c8
    clear c8
    have H' := aM H
    clear H
    have p994 : 0 ≤ (x9_1 : Int) := of_decide_eq_true za
    have q994 : x9_1 < (l0.length : Int) := of_decide_eq_true za
    obtain ⟨ad994, e994, hx994_0⟩ := Kd.at_int HR0.out x9_1 p994 q994
    cases e994
    replace p994 := eq_true p994
    replace q994 := eq_true q994
    go_wp2_with (first | ((with_reducible refine gate_callee (f := 128) rfl ?_); refine goesL_ (some 17) rfl rfl Try.func128 (by kernel_rfl) rfl #[.int .i64 (rd l0 x9_1), .int .i64 0, .int .i64 (wrap64 (a1 - 1))] rfl zm ?_; (with_reducible refine (impl_within.calls (rd l0 x9_1) 0 (wrap64 (a1 - 1)) true _ A6.out).mono ?_); rintro e w' ⟨rfl, ⟨nd, rfl⟩⟩; refine ⟨_, rfl, ?_⟩))
    go_roundg k1
    case measure => have := HK1.out; omega
    case rel => exact ⟨(wrap64 (x9_1 + 1)), zr, H', ⟨by have := HK1.out; omega⟩, by repeat (first | exact Drawn0.refl _ | apply Drawn0.step)⟩
   rw [if_pos c8] at H
   have c8b0 : decide (0 < x9_1) = true := decide_eq_true c8
   clear c8
   obtain ⟨ji9, hji9⟩ : ∃ j_ : Int, (wrap64 (x9_1 - 1)) = j_ := ⟨_, rfl⟩
   replace H : (if 0 ≤ (ji9) then (if (ji9) < (l0.length : Int) then (if (rd l0 x9_1) ≤ (rd l0 (ji9)) then (some false) else (impl_isIncreasing.l0 k1 l0 a1 l0 (l0.length : Int) (wrap64 (x9_1 + 1)))) else (none)) else (none)) = some r := by first | (rw [hji9] at H; exact H) | (simp only [hji9] at H ⊢; exact H)
   (try rw [hji9] at A6)
   have hji9w : (IntKind.i64.wrap (x9_1 - 1)) = ji9 := (i64_w _).trans hji9
   by_cases c10 : 0 ≤ (ji9)
   rotate_left
   ·rw [if_neg c10] at H
    exact absurd H (by simp)
   rw [if_pos c10] at H
   have c10b0 : decide (0 ≤ (ji9)) = true := decide_eq_true c10
   clear c10
   by_cases c11 : (ji9) < (l0.length : Int)
   rotate_left
   ·rw [if_neg c11] at H
    exact absurd H (by simp)
   rw [if_pos c11] at H
   have c11b0 : decide ((ji9) < (l0.length : Int)) = true := decide_eq_true c11
   clear c11
   by_cases c12 : (rd l0 x9_1) ≤ (rd l0 (ji9))
   ·rw [if_pos c12] at H
    have c12b0 : decide ((rd l0 x9_1) ≤ (rd l0 (ji9))) = true := decide_eq_true c12
    clear c12
    obtain rfl := Option.some.inj H
    have p994 : 0 ≤ (x9_1 : Int) := of_decide_eq_true za
    have q994 : x9_1 < (l0.length : Int) := of_decide_eq_true za
    obtain ⟨ad994, e994, hx994_0⟩ := Kd.at_int HR0.out x9_1 p994 q994
    cases e994
    replace p994 := eq_true p994
    replace q994 := eq_true q994
    go_wp2_with (first | ((with_reducible refine gate_callee (f := 128) rfl ?_); refine goesL_ (some 17) rfl rfl Try.func128 (by kernel_rfl) rfl #[.int .i64 (rd l0 x9_1), .int .i64 0, .int .i64 (wrap64 (a1 - 1))] rfl zm ?_; (with_reducible refine (impl_within.calls (rd l0 x9_1) 0 (wrap64 (a1 - 1)) true _ A6.out).mono ?_); rintro e w' ⟨rfl, ⟨nd, rfl⟩⟩; refine ⟨_, rfl, ?_⟩; have p996 : 0 ≤ ((ji9) : Int) := of_decide_eq_true za; have q996 : (ji9) < (l0.length : Int) := of_decide_eq_true za; obtain ⟨ad996, e996, hx996_0⟩ := Kd.at_int HR0.out (ji9) p996 q996; obtain rfl : ad994 = ad996 := (by injection e996); replace p996 := eq_true p996; replace q996 := eq_true q996))
    go_ret
    exact ⟨by first | rfl | (simp; done) | (simp only [← hji9] <;> (first | rfl | simp)) | (simp [*]; done), by repeat (first | exact Drawn0.refl _ | apply Drawn0.step)⟩
   rw [if_neg c12] at H
   have c12b0 : decide ((rd l0 x9_1) ≤ (rd l0 (ji9))) = false := decide_eq_false c12
   clear c12
   have H' := aM H
   clear H
   have p994 : 0 ≤ (x9_1 : Int) := of_decide_eq_true za
   have q994 : x9_1 < (l0.length : Int) := of_decide_eq_true za
   obtain ⟨ad994, e994, hx994_0⟩ := Kd.at_int HR0.out x9_1 p994 q994
   cases e994
   replace p994 := eq_true p994
   replace q994 := eq_true q994
   go_wp2_with (first | ((with_reducible refine gate_callee (f := 128) rfl ?_); refine goesL_ (some 17) rfl rfl Try.func128 (by kernel_rfl) rfl #[.int .i64 (rd l0 x9_1), .int .i64 0, .int .i64 (wrap64 (a1 - 1))] rfl zm ?_; (with_reducible refine (impl_within.calls (rd l0 x9_1) 0 (wrap64 (a1 - 1)) true _ A6.out).mono ?_); rintro e w' ⟨rfl, ⟨nd, rfl⟩⟩; refine ⟨_, rfl, ?_⟩; have p996 : 0 ≤ ((ji9) : Int) := of_decide_eq_true za; have q996 : (ji9) < (l0.length : Int) := of_decide_eq_true za; obtain ⟨ad996, e996, hx996_0⟩ := Kd.at_int HR0.out (ji9) p996 q996; obtain rfl : ad994 = ad996 := (by injection e996); replace p996 := eq_true p996; replace q996 := eq_true q996))
   go_roundg k1
   case measure => have := HK1.out; omega
   case rel => exact ⟨(wrap64 (x9_1 + 1)), zr, H', ⟨by have := HK1.out; omega⟩, by repeat (first | exact Drawn0.refl _ | apply Drawn0.step)⟩
def impl_setCode.f (k : Nat) (l0 : List (S59)) (l1 : List Int) : Option (Int) := (impl_IsRegion.f k l0).bind fun t997 => (if t997 = true then ((impl_isIncreasing.f k l1 (l0.length : Int)).bind fun t998 => (if t998 = true then (some 0) else (some 2))) else (some 1))
theorem impl_setCode.calls (k : Nat) (A0 : Option Addr) (c0 : Nat) (l0 : List (S59)) (A1 : Option Addr) (c1 : Nat) (l1 : List Int) (r : Int) (w : World) (hr0 : Kd.C k59 w A0 l0.length l0) (hc0 : l0.length ≤ c0) (hr1 : Kd.C (Kd.int .i64) w A1 l1.length l1) (hc1 : l1.length ≤ c1) (h : impl_setCode.f k l0 l1 = some r) :
  Calls Try.prog 107 #[.slice A0 l0.length c0, .slice A1 l1.length c1] w fun e w' => e = .returned (.int .i64 r) ∧ Below w.heap.size w w' := by
 have HR0 := aM hr0
 have HC0 := aM hc0
 clear hr0 hc0
 have HR1 := aM hr1
 have HC1 := aM hc1
 clear hr1 hc1
 have HB := aM (Below.refl w.heap.size w)
 have H : ((impl_IsRegion.f k l0).bind fun t997 => (if t997 = true then ((impl_isIncreasing.f k l1 (l0.length : Int)).bind fun t998 => (if t998 = true then (some 0) else (some 2))) else (some 1))) = some r := h
 clear h
 replace H := Option.bind_eq_some_iff.mp H
 obtain ⟨t997, A30, H⟩ := H
 replace H : (if t997 = true then ((impl_isIncreasing.f k l1 (l0.length : Int)).bind fun t998 => (if t998 = true then (some 0) else (some 2))) else (some 1)) = some r := H
 have A3 := aM A30
 clear A30
 by_cases c4 : t997 = true
 rotate_left
 ·replace c4 := Bool.eq_false_iff.mpr c4
  subst c4
  have H1 : (some 1) = some r := by rw [if_neg (show ¬ (false = true) by decide)] at H; exact H
  clear H
  have H := H1
  clear H1
  obtain rfl := Option.some.inj H
  go_enter Try.func107, Try.ntmps107
  go_wp2_with (first | ((with_reducible refine gate_callee (f := 62) rfl ?_); refine goesL_ (some 6) rfl rfl Try.func62 (by kernel_rfl) rfl #[.slice A0 l0.length c0] rfl zm ?_; (with_reducible refine (impl_IsRegion.calls k _ _ l0 false _ ?side1 ?side2 A3.out).mono ?_); (case side1 => repeat (first | exact HR0.out | (with_reducible refine Kd.C_alloc ?_ _) | (with_reducible refine Kd.C_drewN ?_ _) | (with_reducible refine Kd.C_drew ?_))); (case side2 => exact HC0.out); rintro e w9 ⟨rfl, hb⟩; refine ⟨_, rfl, ?_⟩; have n0_ := aM (below_step zb hb); clear HB; have HB := n0_; clear n0_; (try clear hb); (try clear hb2); (try clear hk); (try clear hi)))
  go_ret
  exact ⟨zw, zb⟩
 subst c4
 have H1 : ((impl_isIncreasing.f k l1 (l0.length : Int)).bind fun t998 => (if t998 = true then (some 0) else (some 2))) = some r := by rw [if_pos rfl] at H; exact H
 clear H
 have H := H1
 clear H1
 replace H := Option.bind_eq_some_iff.mp H
 obtain ⟨t998, A50, H⟩ := H
 replace H : (if t998 = true then (some 0) else (some 2)) = some r := H
 have A5 := aM A50
 clear A50
 by_cases c6 : t998 = true
 ·subst c6
  have H1 : (some 0) = some r := by rw [if_pos rfl] at H; exact H
  clear H
  have H := H1
  clear H1
  obtain rfl := Option.some.inj H
  go_enter Try.func107, Try.ntmps107
  go_wp2_with (first | ((with_reducible refine gate_callee (f := 62) rfl ?_); refine goesL_ (some 6) rfl rfl Try.func62 (by kernel_rfl) rfl #[.slice A0 l0.length c0] rfl zm ?_; (with_reducible refine (impl_IsRegion.calls k _ _ l0 true _ ?side1 ?side2 A3.out).mono ?_); (case side1 => repeat (first | exact HR0.out | (with_reducible refine Kd.C_alloc ?_ _) | (with_reducible refine Kd.C_drewN ?_ _) | (with_reducible refine Kd.C_drew ?_))); (case side2 => exact HC0.out); rintro e w7 ⟨rfl, hb⟩; refine ⟨_, rfl, ?_⟩; have n0_ := aM (below_step zb hb); clear HB; have HB := n0_; clear n0_; (try clear hb); (try clear hb2); (try clear hk); (try clear hi)) | ((with_reducible refine gate_callee (f := 148) rfl ?_); refine goesL_ (some 11) rfl rfl Try.func148 (by kernel_rfl) rfl #[.slice A1 l1.length c1, .int .i64 (l0.length : Int)] rfl zm ?_; (with_reducible refine (impl_isIncreasing.calls k _ _ l1 (l0.length : Int) true _ ?side1 ?side2 A5.out).mono ?_); (case side1 => repeat (first | exact (Kd.C_below HR1.out HB.out) | (with_reducible refine Kd.C_alloc ?_ _) | (with_reducible refine Kd.C_drewN ?_ _) | (with_reducible refine Kd.C_drew ?_))); (case side2 => exact HC1.out); rintro e w' ⟨rfl, ⟨nd, rfl⟩⟩; refine ⟨_, rfl, ?_⟩))
  go_ret
  exact ⟨zw, zb⟩
 replace c6 := Bool.eq_false_iff.mpr c6
 subst c6
 have H1 : (some 2) = some r := by rw [if_neg (show ¬ (false = true) by decide)] at H; exact H
 clear H
 have H := H1
 clear H1
 obtain rfl := Option.some.inj H
 go_enter Try.func107, Try.ntmps107
 go_wp2_with (first | ((with_reducible refine gate_callee (f := 62) rfl ?_); refine goesL_ (some 6) rfl rfl Try.func62 (by kernel_rfl) rfl #[.slice A0 l0.length c0] rfl zm ?_; (with_reducible refine (impl_IsRegion.calls k _ _ l0 true _ ?side1 ?side2 A3.out).mono ?_); (case side1 => repeat (first | exact HR0.out | (with_reducible refine Kd.C_alloc ?_ _) | (with_reducible refine Kd.C_drewN ?_ _) | (with_reducible refine Kd.C_drew ?_))); (case side2 => exact HC0.out); rintro e w8 ⟨rfl, hb⟩; refine ⟨_, rfl, ?_⟩; have n0_ := aM (below_step zb hb); clear HB; have HB := n0_; clear n0_; (try clear hb); (try clear hb2); (try clear hk); (try clear hi)) | ((with_reducible refine gate_callee (f := 148) rfl ?_); refine goesL_ (some 11) rfl rfl Try.func148 (by kernel_rfl) rfl #[.slice A1 l1.length c1, .int .i64 (l0.length : Int)] rfl zm ?_; (with_reducible refine (impl_isIncreasing.calls k _ _ l1 (l0.length : Int) false _ ?side1 ?side2 A5.out).mono ?_); (case side1 => repeat (first | exact (Kd.C_below HR1.out HB.out) | (with_reducible refine Kd.C_alloc ?_ _) | (with_reducible refine Kd.C_drewN ?_ _) | (with_reducible refine Kd.C_drew ?_))); (case side2 => exact HC1.out); rintro e w' ⟨rfl, ⟨nd, rfl⟩⟩; refine ⟨_, rfl, ?_⟩))
 go_ret
 exact ⟨zw, zb⟩
def slices_Index_int64_int64.l0 : Nat → List Int → Int → Int → Int → Option (Int)
 | 0, _, _, _, _ => none
 | k + 1, x0, x1, x7, x8 => if x8 < x7 then (if 0 ≤ x8 then (if x8 < (x0.length : Int) then (if x1 = (rd x0 x8) then (some x8) else (slices_Index_int64_int64.l0 k x0 x1 x7 (wrap64 (x8 + 1)))) else (none)) else (none)) else (some (-1))
def slices_Index_int64_int64.f (k : Nat) (l0 : List Int) (a1 : Int) : Option (Int) := slices_Index_int64_int64.l0 k l0 a1 (l0.length : Int) 0
theorem slices_Index_int64_int64.calls (k : Nat) (A0 : Option Addr) (c0 : Nat) (l0 : List Int) (a1 : Int) (r : Int) (w : World) (hr0 : Kd.C (Kd.int .i64) w A0 l0.length l0) (hc0 : l0.length ≤ c0) (h : slices_Index_int64_int64.f k l0 a1 = some r) :
  Calls Try.prog 134 #[.slice A0 l0.length c0, .int .i64 a1] w fun e w' => e = .returned (.int .i64 r) ∧ Drawn0 w w' := by
 have HR0 := aM hr0
 have HC0 := aM hc0
 clear hr0 hc0
 have H : (slices_Index_int64_int64.l0 k l0 a1 (l0.length : Int) 0) = some r := h
 clear h
 have H' := aM H
 clear H
 go_enter Try.func134, Try.ntmps134
 go_wp2
 go_loopg [8] k (fun kq v8 w' => ∃ (x8_1 : Int), v8 = .int .i64 x8_1 ∧ Aside0 (slices_Index_int64_int64.l0 kq l0 a1 (l0.length : Int) x8_1 = some r) ∧ Aside0 (kq ≤ k) ∧ Drawn0 w w')
 case atStart => exact ⟨(0), zr, H', ⟨Nat.le_refl _⟩, by repeat (first | exact Drawn0.refl _ | apply Drawn0.step)⟩
 case round =>
  clear H'
  try clear c1
  try clear p2
  obtain ⟨x8_1, rfl, HA, HK1, ⟨m1, rfl⟩⟩ := hrel
  cases gk with
  | zero => exact absurd HA.out (by simp [slices_Index_int64_int64.l0])
  | succ k1 =>
   have H := HA.out
   clear HA
   simp only [slices_Index_int64_int64.l0] at H
   by_cases c3 : x8_1 < (l0.length : Int)
   rotate_left
   ·rw [if_neg c3] at H
    have c3b0 : decide (x8_1 < (l0.length : Int)) = false := decide_eq_false c3
    clear c3
    obtain rfl := Option.some.inj H
    go_wp2
    go_ret
    exact ⟨by first | rfl | (simp; done) | (simp [*]; done), by repeat (first | exact Drawn0.refl _ | apply Drawn0.step)⟩
   rw [if_pos c3] at H
   have c3b0 : decide (x8_1 < (l0.length : Int)) = true := decide_eq_true c3
   clear c3
   by_cases c4 : 0 ≤ x8_1
   rotate_left
   ·rw [if_neg c4] at H
    exact absurd H (by simp)
   rw [if_pos c4] at H
   have c4b0 : decide (0 ≤ x8_1) = true := decide_eq_true c4
   clear c4
   by_cases c5 : x8_1 < (l0.length : Int)
   rotate_left
   ·rw [if_neg c5] at H
    exact absurd H (by simp)
   rw [if_pos c5] at H
   have c5b0 : decide (x8_1 < (l0.length : Int)) = true := decide_eq_true c5
   clear c5
   by_cases c6 : a1 = (rd l0 x8_1)
   ·rw [if_pos c6] at H
    have c6b0 : (a1 == (rd l0 x8_1)) = true := beq_iff_eq.mpr c6
    have c6b1 : (a1 != (rd l0 x8_1)) = false := bne_eq_false_iff_eq.mpr c6
    clear c6
    obtain rfl := Option.some.inj H
    have p999 : 0 ≤ (x8_1 : Int) := of_decide_eq_true za
    have q999 : x8_1 < (l0.length : Int) := of_decide_eq_true za
    obtain ⟨ad999, e999, hx999_0⟩ := Kd.at_int HR0.out x8_1 p999 q999
    cases e999
    replace p999 := eq_true p999
    replace q999 := eq_true q999
    go_wp2
    go_ret
    exact ⟨by first | rfl | (simp; done) | (simp [*]; done), by repeat (first | exact Drawn0.refl _ | apply Drawn0.step)⟩
   rw [if_neg c6] at H
   have c6b0 : (a1 == (rd l0 x8_1)) = false := beq_eq_false_iff_ne.mpr c6
   have c6b1 : (a1 != (rd l0 x8_1)) = true := bne_iff_ne.mpr c6
   have H' := aM H
   clear H
   have p999 : 0 ≤ (x8_1 : Int) := of_decide_eq_true za
   have q999 : x8_1 < (l0.length : Int) := of_decide_eq_true za
   obtain ⟨ad999, e999, hx999_0⟩ := Kd.at_int HR0.out x8_1 p999 q999
   cases e999
   replace p999 := eq_true p999
   replace q999 := eq_true q999
   go_wp2
   go_roundg k1
   case measure => have := HK1.out; omega
   case rel => exact ⟨(wrap64 (x8_1 + 1)), zr, H', ⟨by have := HK1.out; omega⟩, by repeat (first | exact Drawn0.refl _ | apply Drawn0.step)⟩
def slices_Contains_int64_int64.f (k : Nat) (l0 : List Int) (a1 : Int) : Option (Bool) := (slices_Index_int64_int64.f k l0 a1).bind fun t1000 => (some (decide (t1000 ≥ 0)))
theorem slices_Contains_int64_int64.calls (k : Nat) (A0 : Option Addr) (c0 : Nat) (l0 : List Int) (a1 : Int) (r : Bool) (w : World) (hr0 : Kd.C (Kd.int .i64) w A0 l0.length l0) (hc0 : l0.length ≤ c0) (h : slices_Contains_int64_int64.f k l0 a1 = some r) :
  Calls Try.prog 75 #[.slice A0 l0.length c0, .int .i64 a1] w fun e w' => e = .returned (.bool r) ∧ Drawn0 w w' := by
 have HR0 := aM hr0
 have HC0 := aM hc0
 clear hr0 hc0
 have H : ((slices_Index_int64_int64.f k l0 a1).bind fun t1000 => (some (decide (t1000 ≥ 0)))) = some r := h
 clear h
 replace H := Option.bind_eq_some_iff.mp H
 obtain ⟨t1000, A30, H⟩ := H
 replace H : (some (decide (t1000 ≥ 0))) = some r := H
 have A3 := aM A30
 clear A30
 obtain rfl := Option.some.inj H
 go_enter Try.func75, Try.ntmps75
 go_wp2_with (first | ((with_reducible refine gate_callee (f := 134) rfl ?_); refine goesL_ (some 7) rfl rfl Try.func134 (by kernel_rfl) rfl #[.slice A0 l0.length c0, .int .i64 a1] rfl zm ?_; (with_reducible refine (slices_Index_int64_int64.calls k _ _ l0 a1 t1000 _ ?side1 ?side2 A3.out).mono ?_); (case side1 => repeat (first | exact HR0.out | (with_reducible refine Kd.C_alloc ?_ _) | (with_reducible refine Kd.C_drewN ?_ _) | (with_reducible refine Kd.C_drew ?_))); (case side2 => exact HC0.out); rintro e w' ⟨rfl, ⟨nd, rfl⟩⟩; refine ⟨_, rfl, ?_⟩))
 go_ret
 exact ⟨by first | rfl | (simp; done) | (simp [*]; done), by repeat (first | exact Drawn0.refl _ | apply Drawn0.step)⟩
def impl_without.l0 : Nat → List Int → List (S59) → List (S59) → Int → Int → Option ((List (S59)))
 | 0, _, _, _, _, _ => none
 | k + 1, x1, x5, x9, x10, x11 => if x11 < x10 then (if 0 ≤ x11 then (if x11 < (x9.length : Int) then ((slices_Contains_int64_int64.f k x1 x11).bind fun t1006 => (if t1006 = true then (impl_without.l0 k x1 x5 x9 x10 (wrap64 (x11 + 1))) else (if x5.length < 8796093022208 then (impl_without.l0 k x1 (x5 ++ [(⟨(rd_T59 x9 x11).f0, (rd_T59 x9 x11).f1⟩ : S59)]) x9 x10 (wrap64 (x11 + 1))) else (none)))) else (none)) else (none)) else (some x5)
def impl_without.f (k : Nat) (l0 : List (S59)) (l1 : List Int) : Option ((List (S59))) := impl_without.l0 k l1 (([] : List (S59))) l0 (l0.length : Int) 0
theorem impl_without.calls (k : Nat) (A0 : Option Addr) (c0 : Nat) (l0 : List (S59)) (A1 : Option Addr) (c1 : Nat) (l1 : List Int) (r : List (S59)) (w : World) (hr0 : Kd.C k59 w A0 l0.length l0) (hc0 : l0.length ≤ c0) (hr1 : Kd.C (Kd.int .i64) w A1 l1.length l1) (hc1 : l1.length ≤ c1) (h : impl_without.f k l0 l1 = some r) :
  Calls Try.prog 108 #[.slice A0 l0.length c0, .slice A1 l1.length c1] w fun e w' => ∃ v0_ : Value, e = .returned (v0_) ∧ Kd.R k59 59 w' w.heap.size (fun _ => True) v0_ r ∧ Below w.heap.size w w' := by
 have hu59 := Try.underlying59
 have HR0 := aM hr0
 have HC0 := aM hc0
 clear hr0 hc0
 have HR1 := aM hr1
 have HC1 := aM hc1
 clear hr1 hc1
 have HB := aM (Below.refl w.heap.size w)
 have H : (impl_without.l0 k l1 (([] : List (S59))) l0 (l0.length : Int) 0) = some r := h
 clear h
 obtain ⟨y1001, hy1001⟩ : ∃ y_ : List (S59), y_ = (([] : List (S59))) := ⟨_, rfl⟩
 replace H : (impl_without.l0 k l1 y1001 l0 (l0.length : Int) 0) = some r := zy H hy1001
 have Ny1001 := aM hy1001
 clear hy1001
 have H' := aM H
 clear H
 go_enter Try.func108, Try.ntmps108
 go_wp2_with (first | ((with_reducible refine gate_dst (N := 8) rfl ?_); refine Kd.R_lit k59 _ 59 ?hg (N := 8) ?hd (xs := ([] : List (S59))) (inner := []) (ok := fun _ => True) (okp := fun _ => True) ?hr ?hp (fun _ hk => hk) trivial (Below.refl _ _) (Nat.le_refl _) (by simp) ?_; (case hd => rfl); (case hg => rfl); (case hr => first | (go_simp; done) | (go_simp; rfl)); (case hp => exact (Reps.none _ _)); intro v1002 w3 ho4 hb hg_ hnew_; clear hg_ hnew_; (first | rw [← Ny1001.out] at ho4 | (simp only [Int.reduceToNat] at ho4; rw [← Ny1001.out] at ho4)); have n0_ := aM (Kd.R_lower ho4 (below_size zb)); have n1_ := aM (below_step zb hb); clear HB; have HO1003 := n0_; have HB := n1_; clear n0_ n1_; clear hb ho4))
 go_loopg [5, 11] k (fun kq v5 v11 w' => ∃ (x5_1 : List (S59)) (x11_1 : Int), v11 = .int .i64 x11_1 ∧ Aside0 (impl_without.l0 kq l1 x5_1 l0 (l0.length : Int) x11_1 = some r) ∧ Aside0 (kq ≤ k) ∧ Aside0 (Kd.R k59 59 w' w.heap.size (fun _ => True) v5 x5_1) ∧ Aside0 (Below w.heap.size w w'))
 case atStart => exact ⟨(y1001), (0), zr, H', ⟨Nat.le_refl _⟩, ⟨mR_ HO1003.out⟩, ⟨zb⟩⟩
 case round =>
  clear H'
  try clear c1
  try clear p2
  obtain ⟨x5_1, x11_1, rfl, HA, HK1, HO_5, HB⟩ := hrel
  cases gk with
  | zero => exact absurd HA.out (by simp [impl_without.l0])
  | succ k1 =>
   have H := HA.out
   clear HA
   simp only [impl_without.l0] at H
   by_cases c5 : x11_1 < (l0.length : Int)
   rotate_left
   ·rw [if_neg c5] at H
    have c5b0 : decide (x11_1 < (l0.length : Int)) = false := decide_eq_false c5
    clear c5
    obtain rfl := Option.some.inj H
    go_wp2
    go_ret
    exact ⟨_, zw, mR_ HO_5.out, zb⟩
   rw [if_pos c5] at H
   have c5b0 : decide (x11_1 < (l0.length : Int)) = true := decide_eq_true c5
   clear c5
   by_cases c6 : 0 ≤ x11_1
   rotate_left
   ·rw [if_neg c6] at H
    exact absurd H (by simp)
   rw [if_pos c6] at H
   have c6b0 : decide (0 ≤ x11_1) = true := decide_eq_true c6
   clear c6
   by_cases c7 : x11_1 < (l0.length : Int)
   rotate_left
   ·rw [if_neg c7] at H
    exact absurd H (by simp)
   rw [if_pos c7] at H
   have c7b0 : decide (x11_1 < (l0.length : Int)) = true := decide_eq_true c7
   clear c7
   replace H := Option.bind_eq_some_iff.mp H
   obtain ⟨t1006, A80, H⟩ := H
   replace H : (if t1006 = true then (impl_without.l0 k1 l1 x5_1 l0 (l0.length : Int) (wrap64 (x11_1 + 1))) else (if x5_1.length < 8796093022208 then (impl_without.l0 k1 l1 (x5_1 ++ [(⟨(rd_T59 l0 x11_1).f0, (rd_T59 l0 x11_1).f1⟩ : S59)]) l0 (l0.length : Int) (wrap64 (x11_1 + 1))) else (none))) = some r := H
   have A8 := aM A80
   clear A80
   by_cases c9 : t1006 = true
   ·subst c9
    have H1 : (impl_without.l0 k1 l1 x5_1 l0 (l0.length : Int) (wrap64 (x11_1 + 1))) = some r := by rw [if_pos rfl] at H; exact H
    clear H
    have H := H1
    clear H1
    have H' := aM H
    clear H
    have p1004 : 0 ≤ (x11_1 : Int) := of_decide_eq_true za
    have q1004 : x11_1 < (l0.length : Int) := of_decide_eq_true za
    obtain ⟨ad1004, e1004, hx1004_0, hx1004_1⟩ := at_T59 HR0.out x11_1 p1004 q1004
    cases e1004
    replace hx1004_0 := (HB.out.cell (World.block_lt_of_cell? w _ hx1004_0)).trans hx1004_0
    replace hx1004_1 := (HB.out.cell (World.block_lt_of_cell? w _ hx1004_1)).trans hx1004_1
    replace p1004 := eq_true p1004
    replace q1004 := eq_true q1004
    go_wp2_with (first | ((with_reducible refine gate_dst (N := 7) rfl ?_); refine box_event ?hg (N := 7) ?hd (cs := #[.int .i64 0, .int .i64 0]) (t := 59) ?hr ?_; (case hd => rfl); (case hg => rfl); (case hr => first | (go_simp; done) | (go_simp; rfl)); intro gb1005 hg w10 hbox hb; have n0_ := aM (Kd.R_below (Kd.R_elderB (mR_ HO_5.out) gb1005 (Nat.le_of_eq hg.symm)) hb); have n1_ := aM (below_step zb hb); have n2_ := aM (hbox); have n3_ := aM ((ze : w.heap.size ≤ gb1005)); have n4_ := aM ((ze : w.heap.size ≤ gb1005)); clear HO_5; clear HB; have HO_5 := n0_; have HB := n1_; have BK1005 := n2_; have GW1005 := n3_; have GE1005 := n4_; clear n0_ n1_ n2_ n3_ n4_; clear hb hbox hg; have hcz11_0 : w10.cell? ⟨gb1005, 0, none⟩ = some (.int .i64 0) := (blk_cell BK1005.out 0).trans rfl; have hcz11_1 : w10.cell? ⟨gb1005, 1, none⟩ = some (.int .i64 0) := (blk_cell BK1005.out 1).trans rfl; have hfz11_0 := blk_frozen BK1005.out 0; have hfz11_1 := blk_frozen BK1005.out 1) | ((with_reducible refine gate_callee (f := 75) rfl ?_); refine goesL_ (some 18) rfl rfl Try.func75 (by kernel_rfl) rfl #[.slice A1 l1.length c1, .int .i64 x11_1] rfl zm ?_; (with_reducible refine (slices_Contains_int64_int64.calls k1 _ _ l1 x11_1 true _ ?side1 ?side2 A8.out).mono ?_); (case side1 => exact Kd.C_below HR1.out (zs GE1005.out)); (case side2 => exact HC1.out); rintro e w' ⟨rfl, ⟨nd, rfl⟩⟩; refine ⟨_, rfl, ?_⟩))
    go_roundg k1
    case measure => have := HK1.out; omega
    case rel => exact ⟨(x5_1), (wrap64 (x11_1 + 1)), zr, H', ⟨by have := HK1.out; omega⟩, ⟨by (with_reducible repeat (first | apply Kd.R_alloc | apply Kd.R_drewN | apply Kd.R_drew)); exact Kd.R_mono (Kd.R_far (p := ⟨gb1005, 1, none⟩) (Kd.R_far (p := ⟨gb1005, 0, none⟩) (Kd.R_mono HO_5.out (fun k_ hk => (⟨hk, hk.2⟩ : _ ∧ k_ ≠ gb1005))) (fun _ hk => hk.2) (.int .i64 ((rd_T59 l0 x11_1).f0))) (fun _ hk => hk.2) (.int .i64 ((rd_T59 l0 x11_1).f1))) (fun _ hk => trivial)⟩, ⟨zs GE1005.out⟩⟩
   replace c9 := Bool.eq_false_iff.mpr c9
   subst c9
   have H1 : (if x5_1.length < 8796093022208 then (impl_without.l0 k1 l1 (x5_1 ++ [(⟨(rd_T59 l0 x11_1).f0, (rd_T59 l0 x11_1).f1⟩ : S59)]) l0 (l0.length : Int) (wrap64 (x11_1 + 1))) else (none)) = some r := by rw [if_neg (show ¬ (false = true) by decide)] at H; exact H
   clear H
   have H := H1
   clear H1
   by_cases c12 : x5_1.length < 8796093022208
   rotate_left
   ·rw [if_neg c12] at H
    exact absurd H (by simp)
   rw [if_pos c12] at H
   have LMc12 := aM c12
   clear c12
   obtain ⟨y1007, hy1007⟩ : ∃ y_ : List (S59), y_ = (x5_1 ++ [(⟨(rd_T59 l0 x11_1).f0, (rd_T59 l0 x11_1).f1⟩ : S59)]) := ⟨_, rfl⟩
   replace H : (impl_without.l0 k1 l1 y1007 l0 (l0.length : Int) (wrap64 (x11_1 + 1))) = some r := zy H hy1007
   have Ny1007 := aM hy1007
   clear hy1007
   have H' := aM H
   clear H
   have p1004 : 0 ≤ (x11_1 : Int) := of_decide_eq_true za
   have q1004 : x11_1 < (l0.length : Int) := of_decide_eq_true za
   obtain ⟨ad1004, e1004, hx1004_0, hx1004_1⟩ := at_T59 HR0.out x11_1 p1004 q1004
   cases e1004
   replace hx1004_0 := (HB.out.cell (World.block_lt_of_cell? w _ hx1004_0)).trans hx1004_0
   replace hx1004_1 := (HB.out.cell (World.block_lt_of_cell? w _ hx1004_1)).trans hx1004_1
   replace p1004 := eq_true p1004
   replace q1004 := eq_true q1004
   go_wp2_with (first | ((with_reducible refine gate_dst (N := 7) rfl ?_); refine box_event ?hg (N := 7) ?hd (cs := #[.int .i64 0, .int .i64 0]) (t := 59) ?hr ?_; (case hd => rfl); (case hg => rfl); (case hr => first | (go_simp; done) | (go_simp; rfl)); intro gb1005 hg w13 hbox hb; have n0_ := aM (Kd.R_below (Kd.R_elderB (mR_ HO_5.out) gb1005 (Nat.le_of_eq hg.symm)) hb); have n1_ := aM (below_step zb hb); have n2_ := aM (hbox); have n3_ := aM ((ze : w.heap.size ≤ gb1005)); have n4_ := aM ((ze : w.heap.size ≤ gb1005)); clear HO_5; clear HB; have HO_5 := n0_; have HB := n1_; have BK1005 := n2_; have GW1005 := n3_; have GE1005 := n4_; clear n0_ n1_ n2_ n3_ n4_; clear hb hbox hg; have hcz14_0 : w13.cell? ⟨gb1005, 0, none⟩ = some (.int .i64 0) := (blk_cell BK1005.out 0).trans rfl; have hcz14_1 : w13.cell? ⟨gb1005, 1, none⟩ = some (.int .i64 0) := (blk_cell BK1005.out 1).trans rfl; have hfz14_0 := blk_frozen BK1005.out 0; have hfz14_1 := blk_frozen BK1005.out 1) | ((with_reducible refine gate_callee (f := 75) rfl ?_); refine goesL_ (some 18) rfl rfl Try.func75 (by kernel_rfl) rfl #[.slice A1 l1.length c1, .int .i64 x11_1] rfl zm ?_; (with_reducible refine (slices_Contains_int64_int64.calls k1 _ _ l1 x11_1 false _ ?side1 ?side2 A8.out).mono ?_); (case side1 => exact Kd.C_below HR1.out (zs GE1005.out)); (case side2 => exact HC1.out); rintro e w' ⟨rfl, ⟨nd, rfl⟩⟩; refine ⟨_, rfl, ?_⟩) | ((with_reducible refine gate_builtin (b := .append) (xs := #[.tmp 20, .tmp 22]) rfl ?_); at_builtin; refine Kd.R_append k59 (w0 := w) w.heap.size rfl (.tmp 20) (.tmp 22) 43 59 (.agg #[(.int .i64 0), (.int .i64 0)]) 16 rfl Try.underlying43 info59 rfl (by decide) (by omega) u5 x5_1 (⟨(rd_T59 l0 x11_1).f0, (rd_T59 l0 x11_1).f1⟩ : S59) [.int .i64 ((rd_T59 l0 x11_1).f0), .int .i64 ((rd_T59 l0 x11_1).f1)] (fun k_ => k_ ≠ gb1005) (fun _ => False) rfl (by first | (go_simp; done) | (go_simp; rfl)) ?aP (fun _ hk => hk.elim) ?aF ?aO ?aB ?aS ?aL ?_; (case aP => exact k59_mkM _ _ _ (⟨(rd_T59 l0 x11_1).f0, (rd_T59 l0 x11_1).f1⟩ : S59)); (case aB => exact (zs GE1005.out)); (case aF => exact (fun k_ hk => Kd.freshB (g := gb1005) (o := .cells #[.int .i64 ((rd_T59 l0 x11_1).f0), .int .i64 ((rd_T59 l0 x11_1).f1)] 59 (0, 0)) (by (with_reducible repeat (first | refine blk_drewN ?_ _ | refine blk_drew ?_ | refine blk_alloc ?_ _)); refine blk_put (cs := #[.int .i64 ((rd_T59 l0 x11_1).f0), .int .i64 0]) ?_ 1 _ rfl; (with_reducible repeat (first | refine blk_drewN ?_ _ | refine blk_drew ?_ | refine blk_alloc ?_ _)); refine blk_put (cs := #[.int .i64 0, .int .i64 0]) ?_ 0 _ rfl; (with_reducible repeat (first | refine blk_drewN ?_ _ | refine blk_drew ?_ | refine blk_alloc ?_ _)); exact BK1005.out) k_ hk)); (case aO => exact (by (with_reducible repeat (first | apply Kd.R_alloc | apply Kd.R_drewN | apply Kd.R_drew)); exact Kd.R_mono (Kd.R_far (p := ⟨gb1005, 1, none⟩) (Kd.R_far (p := ⟨gb1005, 0, none⟩) (Kd.R_mono HO_5.out (fun k_ hk => (⟨hk, hk.2⟩ : _ ∧ k_ ≠ gb1005))) (fun _ hk => hk.2) (.int .i64 ((rd_T59 l0 x11_1).f0))) (fun _ hk => hk.2) (.int .i64 ((rd_T59 l0 x11_1).f1))) (fun _ hk => hk.1.2))); (case aS => exact (below_size (zs GE1005.out))); (case aL => have := LMc12.out; omega); intro v1008 w15 ho hb hg hat; rw [← Ny1007.out] at ho; have n0_ := aM (blk_grown (g := gb1005) (o := .cells #[.int .i64 ((rd_T59 l0 x11_1).f0), .int .i64 ((rd_T59 l0 x11_1).f1)] 59 (0, 0)) (by (with_reducible repeat (first | refine blk_drewN ?_ _ | refine blk_drew ?_ | refine blk_alloc ?_ _)); refine blk_put (cs := #[.int .i64 ((rd_T59 l0 x11_1).f0), .int .i64 0]) ?_ 1 _ rfl; (with_reducible repeat (first | refine blk_drewN ?_ _ | refine blk_drew ?_ | refine blk_alloc ?_ _)); refine blk_put (cs := #[.int .i64 0, .int .i64 0]) ?_ 0 _ rfl; (with_reducible repeat (first | refine blk_drewN ?_ _ | refine blk_drew ?_ | refine blk_alloc ?_ _)); exact BK1005.out) hg (Kd.R_away HO_5.out (fun _ hk => hk.2))); have n1_ := aM (hb); have n2_ := aM (ho); clear BK1005; clear HB; clear HO_5; have BK1005 := n0_; have HB := n1_; have HO1009 := n2_; clear n0_ n1_ n2_; clear ho hb hg hat))
   go_roundg k1
   case measure => have := HK1.out; omega
   case rel => exact ⟨(y1007), (wrap64 (x11_1 + 1)), zr, H', ⟨by have := HK1.out; omega⟩, ⟨by (with_reducible repeat (first | apply Kd.R_alloc | apply Kd.R_drewN | apply Kd.R_drew)); exact Kd.R_mono HO1009.out (fun _ hk => trivial)⟩, ⟨zs GE1005.out⟩⟩
def spec_l02Index.l0 : Nat → List (S59) → Int → Int → Int → Option (Int)
 | 0, _, _, _, _ => none
 | k + 1, x0, x5, x297000, x297001 => if x5 < (x0.length : Int) then (if 0 ≤ x5 then (if (((rd_T59 x0 x5).f0) == x297000 && (((rd_T59 x0 x5).f1) == x297001)) = true then (some x5) else (spec_l02Index.l0 k x0 (wrap64 (x5 + 1)) x297000 x297001)) else (none)) else (some (-1))
def spec_l02Index.f (k : Nat) (l0 : List (S59)) (a1_0 : Int) (a1_1 : Int) : Option (Int) := spec_l02Index.l0 k l0 0 a1_0 a1_1
theorem spec_l02Index.calls (k : Nat) (A0 : Option Addr) (c0 : Nat) (l0 : List (S59)) (a1_0 : Int) (a1_1 : Int) (r : Int) (w : World) (hr0 : Kd.C k59 w A0 l0.length l0) (hc0 : l0.length ≤ c0) (h : spec_l02Index.f k l0 a1_0 a1_1 = some r) :
  Calls Try.prog 88 #[.slice A0 l0.length c0, .agg #[.int .i64 a1_0, .int .i64 a1_1]] w fun e w' => e = .returned (.int .i64 r) ∧ Below w.heap.size w w' := by
 have hu59 := Try.underlying59
 have HR0 := aM hr0
 have HC0 := aM hc0
 clear hr0 hc0
 have HB := aM (Below.refl w.heap.size w)
 have H : (spec_l02Index.l0 k l0 0 a1_0 a1_1) = some r := h
 clear h
 have H' := aM H
 clear H
 go_enter Try.func88, Try.ntmps88
 go_wp2_with (first | ((with_reducible refine gate_dst (N := 3) rfl ?_); refine box_event ?hg (N := 3) ?hd (cs := #[.int .i64 a1_0, .int .i64 a1_1]) (t := 59) ?hr ?_; (case hd => rfl); (case hg => rfl); (case hr => first | (go_simp; done) | (go_simp; rfl)); intro gb296 hg w3 hbox hb; have n0_ := aM (below_step zb hb); have n1_ := aM (hbox); have n2_ := aM ((ze : w.heap.size ≤ gb296)); have n3_ := aM ((ze : w.heap.size ≤ gb296)); clear HB; have HB := n0_; have BK296 := n1_; have GW296 := n2_; have GE296 := n3_; clear n0_ n1_ n2_ n3_; clear hb hbox hg))
 repeat (go_quiet (first | ((with_reducible refine gate_dst (N := 3) rfl ?_); refine box_event ?hg (N := 3) ?hd (cs := #[.int .i64 a1_0, .int .i64 a1_1]) (t := 59) ?hr ?_; (case hd => rfl); (case hg => rfl); (case hr => first | (go_simp; done) | (go_simp; rfl)); intro gb296 hg w3 hbox hb; have n0_ := aM (below_step zb hb); have n1_ := aM (hbox); have n2_ := aM ((ze : w.heap.size ≤ gb296)); have n3_ := aM ((ze : w.heap.size ≤ gb296)); clear HB; have HB := n0_; have BK296 := n1_; have GW296 := n2_; have GE296 := n3_; clear n0_ n1_ n2_ n3_; clear hb hbox hg)); try go_wp2_with (first | ((with_reducible refine gate_dst (N := 3) rfl ?_); refine box_event ?hg (N := 3) ?hd (cs := #[.int .i64 a1_0, .int .i64 a1_1]) (t := 59) ?hr ?_; (case hd => rfl); (case hg => rfl); (case hr => first | (go_simp; done) | (go_simp; rfl)); intro gb296 hg w3 hbox hb; have n0_ := aM (below_step zb hb); have n1_ := aM (hbox); have n2_ := aM ((ze : w.heap.size ≤ gb296)); have n3_ := aM ((ze : w.heap.size ≤ gb296)); clear HB; have HB := n0_; have BK296 := n1_; have GW296 := n2_; have GE296 := n3_; clear n0_ n1_ n2_ n3_; clear hb hbox hg)))
 go_loopg [5] k (fun kq v5 w' => ∃ (x5_1 : Int), v5 = .int .i64 x5_1 ∧ Aside0 (spec_l02Index.l0 kq l0 x5_1 a1_0 a1_1 = some r) ∧ Aside0 (kq ≤ k) ∧ Aside0 (w'.heap[gb296]? = some (.cells #[.int .i64 a1_0, .int .i64 a1_1] 59 (0, 0))) ∧ Aside0 (Below w.heap.size w w'))
 case atStart => exact ⟨(0), zr, H', ⟨Nat.le_refl _⟩, ⟨mB_ BK296.out⟩, ⟨zs GE296.out⟩⟩
 case round =>
  clear H'
  try clear p2
  obtain ⟨x5_1, rfl, HA, HK1, BK296, HB⟩ := hrel
  cases gk with
  | zero => exact absurd HA.out (by simp [spec_l02Index.l0])
  | succ k1 =>
   have H := HA.out
   clear HA
   simp only [spec_l02Index.l0] at H
   by_cases c4 : x5_1 < (l0.length : Int)
   rotate_left
   ·rw [if_neg c4] at H
    have c4b0 : decide (x5_1 < (l0.length : Int)) = false := decide_eq_false c4
    clear c4
    obtain rfl := Option.some.inj H
    go_wp2
    repeat (go_quiet (fail); try go_wp2)
    go_ret
    exact ⟨zw, zs GE296.out⟩
   rw [if_pos c4] at H
   have c4b0 : decide (x5_1 < (l0.length : Int)) = true := decide_eq_true c4
   clear c4
   by_cases c5 : 0 ≤ x5_1
   rotate_left
   ·rw [if_neg c5] at H
    exact absurd H (by simp)
   rw [if_pos c5] at H
   have c5b0 : decide (0 ≤ x5_1) = true := decide_eq_true c5
   clear c5
   by_cases c6 : (((rd_T59 l0 x5_1).f0) == a1_0 && (((rd_T59 l0 x5_1).f1) == a1_1)) = true
   ·rw [if_pos c6] at H
    have c6b0 : (((rd_T59 l0 x5_1).f0) == a1_0 && (((rd_T59 l0 x5_1).f1) == a1_1)) = true := c6
    (try (have c6b1 : decide (((rd_T59 l0 x5_1).f0) = a1_0 && (((rd_T59 l0 x5_1).f1) == a1_1)) = true := by simpa using c6))
    (try (have c6b2 : (((rd_T59 l0 x5_1).f0) == a1_0 && (((rd_T59 l0 x5_1).f1) == a1_1)) = true := by simpa using c6))
    clear c6
    obtain rfl := Option.some.inj H
    have p297 : 0 ≤ (x5_1 : Int) := of_decide_eq_true za
    have q297 : x5_1 < (l0.length : Int) := of_decide_eq_true za
    obtain ⟨ad297, e297, hx297_0, hx297_1⟩ := at_T59 HR0.out x5_1 p297 q297
    cases e297
    replace hx297_0 := (HB.out.cell (World.block_lt_of_cell? w _ hx297_0)).trans hx297_0
    replace hx297_1 := (HB.out.cell (World.block_lt_of_cell? w _ hx297_1)).trans hx297_1
    replace p297 := eq_true p297
    replace q297 := eq_true q297
    have hcz7_0 : wr.cell? ⟨gb296, 0, none⟩ = some (.int .i64 a1_0) := (blk_cell BK296.out 0).trans rfl
    have hcz7_1 : wr.cell? ⟨gb296, 1, none⟩ = some (.int .i64 a1_1) := (blk_cell BK296.out 1).trans rfl
    have hfz7_0 := blk_frozen BK296.out 0
    have hfz7_1 := blk_frozen BK296.out 1
    go_wp2
    repeat (go_quiet (fail); try go_wp2)
    go_ret
    exact ⟨zw, zs GE296.out⟩
   rw [if_neg c6] at H
   have c6b0 : (((rd_T59 l0 x5_1).f0) == a1_0 && (((rd_T59 l0 x5_1).f1) == a1_1)) = false := by simpa using c6
   (try (have c6b1 : decide (((rd_T59 l0 x5_1).f0) = a1_0 && (((rd_T59 l0 x5_1).f1) == a1_1)) = false := by simpa using c6))
   (try (have c6b2 : (((rd_T59 l0 x5_1).f0) == a1_0 && (((rd_T59 l0 x5_1).f1) == a1_1)) = false := by simpa using c6))
   (try (have c6b3 : ¬ (((rd_T59 l0 x5_1).f0) = a1_0 && (((rd_T59 l0 x5_1).f1) == a1_1)) := by simpa using c6))
   clear c6
   have H' := aM H
   clear H
   have p297 : 0 ≤ (x5_1 : Int) := of_decide_eq_true za
   have q297 : x5_1 < (l0.length : Int) := of_decide_eq_true za
   obtain ⟨ad297, e297, hx297_0, hx297_1⟩ := at_T59 HR0.out x5_1 p297 q297
   cases e297
   replace hx297_0 := (HB.out.cell (World.block_lt_of_cell? w _ hx297_0)).trans hx297_0
   replace hx297_1 := (HB.out.cell (World.block_lt_of_cell? w _ hx297_1)).trans hx297_1
   replace p297 := eq_true p297
   replace q297 := eq_true q297
   have hcz8_0 : wr.cell? ⟨gb296, 0, none⟩ = some (.int .i64 a1_0) := (blk_cell BK296.out 0).trans rfl
   have hcz8_1 : wr.cell? ⟨gb296, 1, none⟩ = some (.int .i64 a1_1) := (blk_cell BK296.out 1).trans rfl
   have hfz8_0 := blk_frozen BK296.out 0
   have hfz8_1 := blk_frozen BK296.out 1
   go_wp2
   repeat (go_quiet (fail); try go_wp2)
   go_roundg k1
   case measure => have := HK1.out; omega
   case rel => exact ⟨(wrap64 (x5_1 + 1)), zr, H', ⟨by have := HK1.out; omega⟩, ⟨mB_ BK296.out⟩, ⟨zs GE296.out⟩⟩
end Go.Proofs.Ytabdmdkoffpppaa.F
end
section
namespace Go.Proofs.Ytabdmdkoffpppaa.F
open Go.RowKit Go.Proofs.YtabdmdkoffpppaaW.PrintWords Go.Proofs.YtabdmdkoffpppaaW.PrintLast Go.Proofs.YtabdmdkoffpppaaW.PrintMore
attribute [local go_sem] max2_int min2_int max_two min_two max_three min_three max_four min_four
set_option linter.unusedVariables false
set_option linter.unusedSimpArgs false
def spec_l02Move.l0 : Nat → List (S59) → Int → Int → List (S59) → Int → Option ((List (S59)))
 | 0, _, _, _, _, _ => none
 | k + 1, x0, x1, x2, x7, x8 => if x8 < (x0.length : Int) then (if 0 ≤ x8 then (if x7.length < 8796093022208 then (spec_l02Move.l0 k x0 x1 x2 (x7 ++ [(⟨wrap64 (((rd_T59 x0 x8).f0) + x1), wrap64 (((rd_T59 x0 x8).f1) + x2)⟩ : S59)]) (wrap64 (x8 + 1))) else (none)) else (none)) else (some x7)
def spec_l02Move.f (k : Nat) (l0 : List (S59)) (a1 : Int) (a2 : Int) : Option ((List (S59))) := spec_l02Move.l0 k l0 a1 a2 (([] : List (S59))) 0
def spec_l02Move.T5 : Bool × List (List Nat × List Nat) := (true, [([], []), ([], []), ([], []), ([1, 2], [1, 2]), ([3], [3]), ([4], [4]), ([], []), ([5, 6], [5, 6]), ([], []), ([], []), ([8, 9], [8, 9]), ([10], [10]), ([11], [11]), ([], []), ([12, 13], [12, 13]), ([7, 14], [7, 14]), ([15], [15]), ([0, 16], [0, 16]), ([17, 17, 0, 1, 2, 3, 4, 5, 6, 7, 8, 9, 10, 11, 12, 13, 14, 15, 16, 17], [0, 17])])
def spec_l02Move.B5 : List Nat := [0, 0, 0, 6, 14, 30, 0, 126, 0, 0, 768, 1792, 3840, 0, 16128, 32766, 65534, 131071, 262143]
theorem spec_l02Move.tab5 : rtab .any (opsOf Try.f152 5) = spec_l02Move.T5 := by kernel_rfl
theorem spec_l02Move.bits5 : waitsOk spec_l02Move.T5.2 spec_l02Move.B5 = true := by kernel_rfl
theorem spec_l02Move.calls (k : Nat) (A0 : Option Addr) (c0 : Nat) (l0 : List (S59)) (a1 : Int) (a2 : Int) (r : List (S59)) (w : World) (hr0 : Kd.C k59 w A0 l0.length l0) (hc0 : l0.length ≤ c0) (h : spec_l02Move.f k l0 a1 a2 = some r) :
  Calls Try.prog 152 #[.slice A0 l0.length c0, .int .i64 a1, .int .i64 a2] w fun e w' => ∃ v0_ : Value, e = .returned (v0_) ∧ Kd.R k59 59 w' w.heap.size (fun _ => True) v0_ r ∧ Below w.heap.size w w' := by
 have hu59 := Try.underlying59
 have HR0 := aM hr0
 have HC0 := aM hc0
 clear hr0 hc0
 have HB := aM (Below.refl w.heap.size w)
 have H : (spec_l02Move.l0 k l0 a1 a2 (([] : List (S59))) 0) = some r := h
 clear h
 obtain ⟨y579, hy579⟩ : ∃ y_ : List (S59), y_ = (([] : List (S59))) := ⟨_, rfl⟩
 replace H : (spec_l02Move.l0 k l0 a1 a2 y579 0) = some r := zy H hy579
 have Ny579 := aM hy579
 clear hy579
 have H' := aM H
 clear H
 go_enter Try.func152, Try.ntmps152
 go_wp2_with (first | ((with_reducible refine gate_dst (N := 9) rfl ?_); refine Kd.R_lit k59 _ 59 ?hg (N := 9) ?hd (xs := ([] : List (S59))) (inner := []) (ok := fun _ => True) (okp := fun _ => True) ?hr ?hp (fun _ hk => hk) trivial (Below.refl _ _) (Nat.le_refl _) (by simp) ?_; (case hd => rfl); (case hg => rfl); (case hr => first | (go_simp; done) | (go_simp; rfl)); (case hp => exact (Reps.none _ _)); intro v580 w4 ho5 hb hg_ hnew_; clear hg_ hnew_; (first | rw [← Ny579.out] at ho5 | (simp only [Int.reduceToNat] at ho5; rw [← Ny579.out] at ho5)); have n0_ := aM (Kd.R_lower ho5 (below_size zb)); have n1_ := aM (below_step zb hb); clear HB; have HO581 := n0_; have HB := n1_; clear n0_ n1_; clear hb ho5))
 go_loopg [7, 8] k (fun kq v7 v8 w' => ∃ (x7_1 : List (S59)) (x8_1 : Int), v8 = .int .i64 x8_1 ∧ Aside0 (spec_l02Move.l0 kq l0 a1 a2 x7_1 x8_1 = some r) ∧ Aside0 (kq ≤ k) ∧ Aside0 (Kd.R k59 59 w' w.heap.size (fun _ => True) v7 x7_1) ∧ Aside0 (Below w.heap.size w w'))
 case atStart => exact ⟨(y579), (0), zr, H', ⟨Nat.le_refl _⟩, ⟨mR_ HO581.out⟩, ⟨zb⟩⟩
 case round =>
  clear H'
  try clear c1
  try clear p2
  obtain ⟨x7_1, x8_1, rfl, HA, HK1, HO_7, HB⟩ := hrel
  cases gk with
  | zero => exact absurd HA.out (by simp [spec_l02Move.l0])
  | succ k1 =>
   have H := HA.out
   clear HA
   simp only [spec_l02Move.l0] at H
   by_cases c6 : x8_1 < (l0.length : Int)
   rotate_left
   ·rw [if_neg c6] at H
    have c6b0 : decide (x8_1 < (l0.length : Int)) = false := decide_eq_false c6
    clear c6
    obtain rfl := Option.some.inj H
    go_wp2
    go_ret
    exact ⟨_, zw, mR_ HO_7.out, zb⟩
   rw [if_pos c6] at H
   have c6b0 : decide (x8_1 < (l0.length : Int)) = true := decide_eq_true c6
   clear c6
   by_cases c7 : 0 ≤ x8_1
   rotate_left
   ·rw [if_neg c7] at H
    exact absurd H (by simp)
   rw [if_pos c7] at H
   have c7b0 : decide (0 ≤ x8_1) = true := decide_eq_true c7
   clear c7
   by_cases c8 : x7_1.length < 8796093022208
   rotate_left
   ·rw [if_neg c8] at H
    exact absurd H (by simp)
   rw [if_pos c8] at H
   have LMc8 := aM c8
   clear c8
   obtain ⟨y584, hy584⟩ : ∃ y_ : List (S59), y_ = (x7_1 ++ [(⟨wrap64 (((rd_T59 l0 x8_1).f0) + a1), wrap64 (((rd_T59 l0 x8_1).f1) + a2)⟩ : S59)]) := ⟨_, rfl⟩
   replace H : (spec_l02Move.l0 k1 l0 a1 a2 y584 (wrap64 (x8_1 + 1))) = some r := zy H hy584
   have Ny584 := aM hy584
   clear hy584
   have H' := aM H
   clear H
   try go_wp2
   have n0_ := aM (Kd.R_drew HO_7.out)
   have n1_ := aM (below_drew1 HB.out)
   clear HO_7
   clear HB
   have HO_7 := n0_
   have HB := n1_
   clear n0_ n1_
   have p582 : 0 ≤ (x8_1 : Int) := of_decide_eq_true za
   have q582 : x8_1 < (l0.length : Int) := of_decide_eq_true za
   obtain ⟨ad582, e582, hx582_0, hx582_1⟩ := at_T59 HR0.out x8_1 p582 q582
   have hw582_1 := hx582_1
   have hw582_0 := hx582_0
   cases e582
   replace hx582_0 := (HB.out.cell (World.block_lt_of_cell? w _ hx582_0)).trans hx582_0
   replace hx582_1 := (HB.out.cell (World.block_lt_of_cell? w _ hx582_1)).trans hx582_1
   replace p582 := eq_true p582
   replace q582 := eq_true q582
   have p583 : 0 ≤ (x8_1 : Int) := of_decide_eq_true za
   have q583 : x8_1 < (l0.length : Int) := of_decide_eq_true za
   obtain ⟨ad583, e583, hx583_0, hx583_1⟩ := at_T59 HR0.out x8_1 p583 q583
   have hw583_1 := hx583_1
   have hw583_0 := hx583_0
   obtain rfl : ad582 = ad583 := (by injection e583)
   replace hx583_0 := (HB.out.cell (World.block_lt_of_cell? w _ hx583_0)).trans hx583_0
   replace hx583_1 := (HB.out.cell (World.block_lt_of_cell? w _ hx583_1)).trans hx583_1
   replace p583 := eq_true p583
   replace q583 := eq_true q583
   refine start_ (n := 19) (S := fun w' => w'.cell? (ad582.add ((x8_1).toNat * 2)) = some (.int .i64 ((rd_T59 l0 x8_1).f0)) ∧ w'.cell? ⟨(ad582.add ((x8_1).toNat * 2)).block, (ad582.add ((x8_1).toNat * 2)).off + 1, none⟩ = some (.int .i64 ((rd_T59 l0 x8_1).f1)) ∧ w'.cell? (ad582.add ((x8_1).toNat * 2)) = some (.int .i64 ((rd_T59 l0 x8_1).f0)) ∧ w'.cell? ⟨(ad582.add ((x8_1).toNat * 2)).block, (ad582.add ((x8_1).toNat * 2)).off + 1, none⟩ = some (.int .i64 ((rd_T59 l0 x8_1).f1))) (ds := []) #[false, false, false, false, false, false, false, false, false, false, false, false, false, false, false, false, false, false, false] (by kernel_rfl) rfl rfl ⟨((HB.out.cell (World.block_lt_of_cell? w _ hw582_0)).trans hw582_0), ((HB.out.cell (World.block_lt_of_cell? w _ hw582_1)).trans hw582_1), ((HB.out.cell (World.block_lt_of_cell? w _ hw583_0)).trans hw583_0), ((HB.out.cell (World.block_lt_of_cell? w _ hw583_1)).trans hw583_1)⟩ (fun hHeld => ?_); refine with_tabW spec_l02Move.tab5 spec_l02Move.bits5 (fun HT_ HW_ => ?_)
   generalize wr.drew = w9 at HO_7 HB hx582_0 hx582_1 hx583_0 hx583_1 hHeld ⊢
   refine pure_ (i := 0) (N := some 16) (v := ?_) (a' := ?_) #[true, false, false, false, false, false, false, false, false, false, false, false, false, false, false, false, false, false, false] rfl rfl zz (fun _ _ _ h => h) (Or.inl ⟨by rfl, ?_⟩) ?_ ?_
   rotate_left
   ·intro w'
    go_simp
    with_reducible rfl
   rotate_left
   ·simp only [Act.put, xA, xB, xC, i64_w, i32_w]
    rfl
   refine pure_ (i := 1) (N := some 17) (v := ?_) (a' := ?_) #[true, true, false, false, false, false, false, false, false, false, false, false, false, false, false, false, false, false, false] rfl rfl zz (fun _ _ _ h => h) (Or.inl ⟨by rfl, ?_⟩) ?_ ?_
   rotate_left
   ·intro w'
    go_simp
    with_reducible rfl
   rotate_left
   ·simp only [Act.put, xA, xB, xC, i64_w, i32_w]
    rfl
   refine pure_ (i := 2) (N := some 18) (v := ?_) (a' := ?_) #[true, true, true, false, false, false, false, false, false, false, false, false, false, false, false, false, false, false, false] rfl rfl zz (fun _ _ _ h => h) (Or.inl ⟨by rfl, ?_⟩) ?_ ?_
   rotate_left
   ·intro w'
    go_simp
    with_reducible rfl
   rotate_left
   ·simp only [Act.put, xA, xB, xC, i64_w, i32_w]
    rfl
   refine pure_ (i := 3) (N := some 19) (v := ?_) (a' := ?_) #[true, true, true, true, false, false, false, false, false, false, false, false, false, false, false, false, false, false, false] rfl rfl zz (fun _ _ _ h => h) (Or.inl ⟨by rfl, ?_⟩) ?_ ?_
   rotate_left
   ·intro w'
    go_simp
    with_reducible rfl
   rotate_left
   ·simp only [Act.put, xA, xB, xC, i64_w, i32_w]
    rfl
   refine pure_ (i := 4) (N := some 20) (v := ?_) (a' := ?_) #[true, true, true, true, true, false, false, false, false, false, false, false, false, false, false, false, false, false, false] rfl rfl zz (fun _ _ _ h => h) (Or.inl ⟨by rfl, ?_⟩) ?_ ?_
   rotate_left
   ·intro w'
    go_simp
    with_reducible rfl
   rotate_left
   ·simp only [Act.put, xA, xB, xC, i64_w, i32_w]
    rfl
   refine pure_ (i := 6) (N := some 22) (v := ?_) (a' := ?_) #[true, true, true, true, true, false, true, false, false, false, false, false, false, false, false, false, false, false, false] rfl rfl zz (fun _ _ _ h => h) (Or.inl ⟨by rfl, ?_⟩) ?_ ?_
   rotate_left
   ·intro w'
    go_simp
    with_reducible rfl
   rotate_left
   ·simp only [Act.put, xA, xB, xC, i64_w, i32_w]
    rfl
   refine pure_ (i := 8) (N := some 24) (v := ?_) (a' := ?_) #[true, true, true, true, true, false, true, false, true, false, false, false, false, false, false, false, false, false, false] rfl rfl zz (fun _ _ _ h => h) (Or.inl ⟨by rfl, ?_⟩) ?_ ?_
   rotate_left
   ·intro w'
    go_simp
    with_reducible rfl
   rotate_left
   ·simp only [Act.put, xA, xB, xC, i64_w, i32_w]
    rfl
   refine pure_ (i := 9) (N := some 25) (v := ?_) (a' := ?_) #[true, true, true, true, true, false, true, false, true, true, false, false, false, false, false, false, false, false, false] rfl rfl zz (fun _ _ _ h => h) (Or.inl ⟨by rfl, ?_⟩) ?_ ?_
   rotate_left
   ·intro w'
    go_simp
    with_reducible rfl
   rotate_left
   ·simp only [Act.put, xA, xB, xC, i64_w, i32_w]
    rfl
   refine pure_ (i := 10) (N := some 26) (v := ?_) (a' := ?_) #[true, true, true, true, true, false, true, false, true, true, true, false, false, false, false, false, false, false, false] rfl rfl zz (fun _ _ _ h => h) (Or.inl ⟨by rfl, ?_⟩) ?_ ?_
   rotate_left
   ·intro w'
    go_simp
    with_reducible rfl
   rotate_left
   ·simp only [Act.put, xA, xB, xC, i64_w, i32_w]
    rfl
   refine pure_ (i := 11) (N := some 27) (v := ?_) (a' := ?_) #[true, true, true, true, true, false, true, false, true, true, true, true, false, false, false, false, false, false, false] rfl rfl zz (fun _ _ _ h => h) (Or.inl ⟨by rfl, ?_⟩) ?_ ?_
   rotate_left
   ·intro w'
    go_simp
    with_reducible rfl
   rotate_left
   ·simp only [Act.put, xA, xB, xC, i64_w, i32_w]
    rfl
   refine pure_ (i := 13) (N := some 29) (v := ?_) (a' := ?_) #[true, true, true, true, true, false, true, false, true, true, true, true, false, true, false, false, false, false, false] rfl rfl zz (fun _ _ _ h => h) (Or.inl ⟨by rfl, ?_⟩) ?_ ?_
   rotate_left
   ·intro w'
    go_simp
    with_reducible rfl
   rotate_left
   ·simp only [Act.put, xA, xB, xC, i64_w, i32_w]
    rfl
   refine take_ (i := 5) (N := some 21) (v := ?_) (a' := ?_) #[true, true, true, true, true, true, true, false, true, true, true, true, false, true, false, false, false, false, false] rfl rfl (take_ofW HT_.out HW_.out (by kernel_rfl)) (fun _ _ _ h => h) (Or.inl ⟨by rfl, ?_⟩) hHeld ?_ ?_
   rotate_left
   ·rintro w' ⟨s0, s1, s2, s3⟩
    go_simp
    with_reducible rfl
   rotate_left
   ·simp only [Act.put, xA, xB, xC, i64_w, i32_w]
    rfl
   refine pure_ (i := 7) (N := some 23) (v := ?_) (a' := ?_) #[true, true, true, true, true, true, true, true, true, true, true, true, false, true, false, false, false, false, false] rfl rfl zz (fun _ _ _ h => h) (Or.inl ⟨by rfl, ?_⟩) ?_ ?_
   rotate_left
   ·intro w'
    go_simp
    with_reducible rfl
   rotate_left
   ·simp only [Act.put, xA, xB, xC, i64_w, i32_w]
    rfl
   refine take_ (i := 12) (N := some 28) (v := ?_) (a' := ?_) #[true, true, true, true, true, true, true, true, true, true, true, true, true, true, false, false, false, false, false] rfl rfl (take_ofW HT_.out HW_.out (by kernel_rfl)) (fun _ _ _ h => h) (Or.inl ⟨by rfl, ?_⟩) hHeld ?_ ?_
   rotate_left
   ·rintro w' ⟨s0, s1, s2, s3⟩
    go_simp
    with_reducible rfl
   rotate_left
   ·simp only [Act.put, xA, xB, xC, i64_w, i32_w]
    rfl
   refine pure_ (i := 14) (N := some 30) (v := ?_) (a' := ?_) #[true, true, true, true, true, true, true, true, true, true, true, true, true, true, true, false, false, false, false] rfl rfl zz (fun _ _ _ h => h) (Or.inl ⟨by rfl, ?_⟩) ?_ ?_
   rotate_left
   ·intro w'
    go_simp
    with_reducible rfl
   rotate_left
   ·simp only [Act.put, xA, xB, xC, i64_w, i32_w]
    rfl
   refine pure_ (i := 15) (N := some 31) (v := ?_) (a' := ?_) #[true, true, true, true, true, true, true, true, true, true, true, true, true, true, true, true, false, false, false] rfl rfl zz (fun _ _ _ h => h) (Or.inl ⟨by rfl, ?_⟩) ?_ ?_
   rotate_left
   ·intro w'
    go_simp
    with_reducible rfl
   rotate_left
   ·simp only [Act.put, xA, xB, xC, i64_w, i32_w]
    rfl
   refine one_ (i := 16) (N := some 32) #[true, true, true, true, true, true, true, true, true, true, true, true, true, true, true, true, true, false, false] rfl rfl (one_of HT_.out (by kernel_rfl)) (by decide) (fun K hK => ?_)
   refine value_ (w1 := ?_) (v := ?_) (by rfl) rfl ?_ ?_
   rotate_left 2
   ·go_simp
    constructor
    ·rfl
    ·rfl
   refine hK.out _ _ ⟨(World.cell?_alloc_lt _ _ _ (World.block_lt_of_cell? _ _ (((HB.out.cell (World.block_lt_of_cell? w _ hw582_0)).trans hw582_0)))).trans (((HB.out.cell (World.block_lt_of_cell? w _ hw582_0)).trans hw582_0)), (World.cell?_alloc_lt _ _ _ (World.block_lt_of_cell? _ _ (((HB.out.cell (World.block_lt_of_cell? w _ hw582_1)).trans hw582_1)))).trans (((HB.out.cell (World.block_lt_of_cell? w _ hw582_1)).trans hw582_1)), (World.cell?_alloc_lt _ _ _ (World.block_lt_of_cell? _ _ (((HB.out.cell (World.block_lt_of_cell? w _ hw583_0)).trans hw583_0)))).trans (((HB.out.cell (World.block_lt_of_cell? w _ hw583_0)).trans hw583_0)), (World.cell?_alloc_lt _ _ _ (World.block_lt_of_cell? _ _ (((HB.out.cell (World.block_lt_of_cell? w _ hw583_1)).trans hw583_1)))).trans (((HB.out.cell (World.block_lt_of_cell? w _ hw583_1)).trans hw583_1))⟩ (fun hHeld => ?_)
   clear hK K
   refine norm_ (a' := ?_) ?_ ?_
   rotate_left
   ·show Act.put _ (some 32) _ = _
    simp only [Act.put, xA, xB, xC, i64_w, i32_w]
    rfl
   refine one_ (i := 17) (N := some 33) #[true, true, true, true, true, true, true, true, true, true, true, true, true, true, true, true, true, true, false] rfl rfl (one_of HT_.out (by kernel_rfl)) (by decide) (fun K hK => ?_)
   refine Kd.R_append_step k59 (w0 := w) w.heap.size (by rfl) (.tmp 16) (.tmp 32) 43 59 (.agg #[(.int .i64 0), (.int .i64 0)]) 16 rfl Try.underlying43 info59 rfl (by decide) (by omega) u7 x7_1 (⟨wrap64 (((rd_T59 l0 x8_1).f0) + a1), wrap64 (((rd_T59 l0 x8_1).f1) + a2)⟩ : S59) [.int .i64 (wrap64 (((rd_T59 l0 x8_1).f0) + a1)), .int .i64 (wrap64 (((rd_T59 l0 x8_1).f1) + a2))] (fun _ => True) (fun _ => False) rfl rfl ?aP (fun _ hk => hk.elim) ?aF ?aO ?aB ?aS ?aL ?_
   (case aP => exact k59_mkM _ _ _ (⟨wrap64 (((rd_T59 l0 x8_1).f0) + a1), wrap64 (((rd_T59 l0 x8_1).f1) + a2)⟩ : S59))
   (case aB => exact zb)
   (case aF => exact (fun _ _ => trivial))
   (case aO => exact (mR_ HO_7.out))
   (case aS => exact (below_size zb))
   (case aL => have := LMc8.out; omega)
   intro v585 w10 ho hb hg hat
   rw [← Ny584.out] at ho
   have n0_ := aM (hb)
   have n1_ := aM (ho)
   clear HB
   clear HO_7
   have HB := n0_
   have HO586 := n1_
   clear n0_ n1_
   clear ho hb hg hat
   refine hK.out _ _ ⟨((HB.out.cell (World.block_lt_of_cell? w _ hw582_0)).trans hw582_0), ((HB.out.cell (World.block_lt_of_cell? w _ hw582_1)).trans hw582_1), ((HB.out.cell (World.block_lt_of_cell? w _ hw583_0)).trans hw583_0), ((HB.out.cell (World.block_lt_of_cell? w _ hw583_1)).trans hw583_1)⟩ (fun hHeld => ?_)
   clear hK K
   refine norm_ (a' := ?_) ?_ ?_
   rotate_left
   ·show Act.put _ (some 33) _ = _
    simp only [Act.put, xA, xB, xC, i64_w, i32_w]
    rfl
   refine pure_ (i := 18) (N := some 7) (v := ?_) (a' := ?_) #[true, true, true, true, true, true, true, true, true, true, true, true, true, true, true, true, true, true, true] rfl rfl zz (fun _ _ _ h => h) (Or.inl ⟨by rfl, ?_⟩) ?_ ?_
   rotate_left
   ·intro w'
    go_simp
    with_reducible rfl
   rotate_left
   ·simp only [Act.put, xA, xB, xC, i64_w, i32_w]
    rfl
   refine done_ (done_of HT_.out (by kernel_rfl)) ?_
   try go_wp2
   go_roundg k1
   case measure => have := HK1.out; omega
   case rel => exact ⟨(y584), (wrap64 (x8_1 + 1)), zr, H', ⟨by have := HK1.out; omega⟩, ⟨mR_ HO586.out⟩, ⟨zb⟩⟩
def spec_l02Normal.f (k : Nat) (l0 : List (S59)) : Option ((List (S59))) := (spec_l02Least.f k l0).bind fun bt587 => ((spec_l02Move.f k l0 (wrap64 (-bt587.1)) (wrap64 (-bt587.2))).bind fun t589 => (some t589))
theorem spec_l02Normal.calls (k : Nat) (A0 : Option Addr) (c0 : Nat) (l0 : List (S59)) (r : List (S59)) (w : World) (hr0 : Kd.C k59 w A0 l0.length l0) (hc0 : l0.length ≤ c0) (h : spec_l02Normal.f k l0 = some r) :
  Calls Try.prog 116 #[.slice A0 l0.length c0] w fun e w' => ∃ v0_ : Value, e = .returned (v0_) ∧ Kd.R k59 59 w' w.heap.size (fun _ => True) v0_ r ∧ Below w.heap.size w w' := by
 have HR0 := aM hr0
 have HC0 := aM hc0
 clear hr0 hc0
 have HB := aM (Below.refl w.heap.size w)
 have H : ((spec_l02Least.f k l0).bind fun bt587 => ((spec_l02Move.f k l0 (wrap64 (-bt587.1)) (wrap64 (-bt587.2))).bind fun t589 => (some t589))) = some r := h
 clear h
 replace H := Option.bind_eq_some_iff.mp H
 obtain ⟨⟨t587, t588⟩, A20, H⟩ := H
 replace H : ((spec_l02Move.f k l0 (wrap64 (-t587)) (wrap64 (-t588))).bind fun t589 => (some t589)) = some r := H
 have A2 := aM A20
 clear A20
 replace H := Option.bind_eq_some_iff.mp H
 obtain ⟨t589, A30, H⟩ := H
 replace H : (some t589) = some r := H
 have A3 := aM A30
 clear A30
 obtain rfl := Option.some.inj H
 go_enter Try.func116, Try.ntmps116
 go_wp2_with (first | ((with_reducible refine gate_callee (f := 126) rfl ?_); refine goesL_ (some 7) rfl rfl Try.func126 (by kernel_rfl) rfl #[.slice A0 l0.length c0] rfl zm ?_; (with_reducible refine (spec_l02Least.calls k _ _ l0 t587 t588 _ ?side1 ?side2 A2.out).mono ?_); (case side1 => repeat (first | exact HR0.out | (with_reducible refine Kd.C_alloc ?_ _) | (with_reducible refine Kd.C_drewN ?_ _) | (with_reducible refine Kd.C_drew ?_))); (case side2 => exact HC0.out); rintro e w4 ⟨rfl, hb⟩; refine ⟨_, rfl, ?_⟩; have n0_ := aM (below_step zb hb); clear HB; have HB := n0_; clear n0_; (try clear hb); (try clear hb2); (try clear hk); (try clear hi)) | ((with_reducible refine gate_callee (f := 152) rfl ?_); refine goesL_ (some 15) rfl rfl Try.func152 (by kernel_rfl) rfl #[.slice A0 l0.length c0, .int .i64 (wrap64 (-t587)), .int .i64 (wrap64 (-t588))] rfl zm ?_; (with_reducible refine (spec_l02Move.calls k _ _ l0 (wrap64 (-t587)) (wrap64 (-t588)) t589 _ ?side1 ?side2 A3.out).mono ?_); (case side1 => repeat (first | exact (Kd.C_below HR0.out HB.out) | (with_reducible refine Kd.C_alloc ?_ _) | (with_reducible refine Kd.C_drewN ?_ _) | (with_reducible refine Kd.C_drew ?_))); (case side2 => exact HC0.out); rintro e w5 ⟨v590, rfl, ho0, hb⟩; refine ⟨_, rfl, ?_⟩; have n0_ := aM (Kd.R_lower ho0 (below_size zb)); have n1_ := aM (below_step zb hb); clear HB; have HO591 := n0_; have HB := n1_; clear n0_ n1_; (try clear hb); (try clear hb2); (try clear hk); (try clear hi); (try clear ho0)))
 go_ret
 exact ⟨_, zw, mR_ HO591.out, zb⟩
end Go.Proofs.Ytabdmdkoffpppaa.F
end
section
namespace Go.Proofs.Ytabdmdkoffpppaa.F
open Go.RowKit Go.Proofs.YtabdmdkoffpppaaW.PrintWords Go.Proofs.YtabdmdkoffpppaaW.PrintLast Go.Proofs.YtabdmdkoffpppaaW.PrintMore
attribute [local go_sem] max2_int min2_int max_two min_two max_three min_three max_four min_four
set_option linter.unusedVariables false
set_option linter.unusedSimpArgs false
def spec_l02Insert.l0 : Nat → List (S59) → List (S59) → Bool → Int → Int → Int → Option ((List (S59)))
 | 0, _, _, _, _, _, _ => none
 | k + 1, x0, x5, x6, x7, x597000, x597001 => if x7 < (x0.length : Int) then (if x6 = true then (if 0 ≤ x7 then (if x5.length < 8796093022208 then (spec_l02Insert.l0 k x0 (x5 ++ [(⟨(rd_T59 x0 x7).f0, (rd_T59 x0 x7).f1⟩ : S59)]) x6 (wrap64 (x7 + 1)) x597000 x597001) else (none)) else (none)) else (if 0 ≤ x7 then ((spec_l02Less.f x597000 x597001 ((rd_T59 x0 x7).f0) ((rd_T59 x0 x7).f1)).bind fun t605 => (if t605 = true then (if x5.length < 8796093022208 then ((some (x5 ++ [(⟨x597000, x597001⟩ : S59)] : List (S59))).bind fun y606 => (if y606.length < 8796093022208 then (spec_l02Insert.l0 k x0 (y606 ++ [(⟨(rd_T59 x0 x7).f0, (rd_T59 x0 x7).f1⟩ : S59)]) true (wrap64 (x7 + 1)) x597000 x597001) else (none))) else (none)) else (if x5.length < 8796093022208 then (spec_l02Insert.l0 k x0 (x5 ++ [(⟨(rd_T59 x0 x7).f0, (rd_T59 x0 x7).f1⟩ : S59)]) x6 (wrap64 (x7 + 1)) x597000 x597001) else (none)))) else (none))) else (if x6 = true then (some x5) else (if x5.length < 8796093022208 then (some (x5 ++ [(⟨x597000, x597001⟩ : S59)])) else (none)))
def spec_l02Insert.f (k : Nat) (l0 : List (S59)) (a1_0 : Int) (a1_1 : Int) : Option ((List (S59))) := spec_l02Insert.l0 k l0 (([] : List (S59))) false 0 a1_0 a1_1
def spec_l02Insert.T6 : Bool × List (List Nat × List Nat) := (true, [([], []), ([0], [0]), ([1], [1]), ([2], [2]), ([2], [2]), ([2], [2]), ([4, 5, 2], [2, 4, 5]), ([6, 2], [2, 6]), ([3, 7, 2, 2], [2, 3, 7]), ([2, 8], [2, 8])])
def spec_l02Insert.B6 : List Nat := [0, 1, 3, 7, 7, 7, 55, 119, 255, 511]
theorem spec_l02Insert.tab6 : rtab .any (opsOf Try.f158 6) = spec_l02Insert.T6 := by kernel_rfl
theorem spec_l02Insert.bits6 : waitsOk spec_l02Insert.T6.2 spec_l02Insert.B6 = true := by kernel_rfl
theorem spec_l02Insert.calls (k : Nat) (A0 : Option Addr) (c0 : Nat) (l0 : List (S59)) (a1_0 : Int) (a1_1 : Int) (r : List (S59)) (w : World) (hr0 : Kd.C k59 w A0 l0.length l0) (hc0 : l0.length ≤ c0) (h : spec_l02Insert.f k l0 a1_0 a1_1 = some r) :
  Calls Try.prog 158 #[.slice A0 l0.length c0, .agg #[.int .i64 a1_0, .int .i64 a1_1]] w fun e w' => ∃ v0_ : Value, e = .returned (v0_) ∧ Kd.R k59 59 w' w.heap.size (fun _ => True) v0_ r ∧ Below w.heap.size w w' := by
 have hu59 := Try.underlying59
 have HR0 := aM hr0
 have HC0 := aM hc0
 clear hr0 hc0
 have HB := aM (Below.refl w.heap.size w)
 have H : (spec_l02Insert.l0 k l0 (([] : List (S59))) false 0 a1_0 a1_1) = some r := h
 clear h
 obtain ⟨y597, hy597⟩ : ∃ y_ : List (S59), y_ = (([] : List (S59))) := ⟨_, rfl⟩
 replace H : (spec_l02Insert.l0 k l0 y597 false 0 a1_0 a1_1) = some r := zy H hy597
 have Ny597 := aM hy597
 clear hy597
 have H' := aM H
 clear H
 go_enter Try.func158, Try.ntmps158
 go_wp2_with (first | ((with_reducible refine gate_dst (N := 3) rfl ?_); refine box_event ?hg (N := 3) ?hd (cs := #[.int .i64 a1_0, .int .i64 a1_1]) (t := 59) ?hr ?_; (case hd => rfl); (case hg => rfl); (case hr => first | (go_simp; done) | (go_simp; rfl)); intro gb596 hg w3 hbox hb; have n0_ := aM (below_step zb hb); have n1_ := aM (hbox); have n2_ := aM ((ze : w.heap.size ≤ gb596)); have n3_ := aM ((ze : w.heap.size ≤ gb596)); clear HB; have HB := n0_; have BK596 := n1_; have GW596 := n2_; have GE596 := n3_; clear n0_ n1_ n2_ n3_; clear hb hbox hg) | ((with_reducible refine gate_dst (N := 8) rfl ?_); refine Kd.R_lit k59 _ 59 ?hg (N := 8) ?hd (xs := ([] : List (S59))) (inner := []) (ok := fun _ => True) (okp := fun _ => True) ?hr ?hp (fun _ hk => hk) trivial (Below.refl _ _) (Nat.le_refl _) (by simp) ?_; (case hd => rfl); (case hg => rfl); (case hr => first | (go_simp; done) | (go_simp; rfl)); (case hp => exact (Reps.none _ _)); intro v598 w4 ho5 hb hg_ hnew_; clear hg_ hnew_; (first | rw [← Ny597.out] at ho5 | (simp only [Int.reduceToNat] at ho5; rw [← Ny597.out] at ho5)); have n0_ := aM (Kd.R_lower (Kd.R_newB ho5 (g := gb596) (o := .cells #[.int .i64 a1_0, .int .i64 a1_1] 59 (0, 0)) (mB_ BK596.out)) (below_size (zs GE596.out))); have n1_ := aM (blk_below (g := gb596) (o := .cells #[.int .i64 a1_0, .int .i64 a1_1] 59 (0, 0)) (mB_ BK596.out) hb); have n2_ := aM (below_step (zs GE596.out) hb); clear BK596; clear HB; have HO599 := n0_; have BK596 := n1_; have HB := n2_; clear n0_ n1_ n2_; clear hb ho5))
 go_loopg [5, 6, 7] k (fun kq v5 v6 v7 w' => ∃ (x5_1 : List (S59)) (x6_1 : Bool) (x7_1 : Int), v6 = .bool x6_1 ∧ v7 = .int .i64 x7_1 ∧ Aside0 (spec_l02Insert.l0 kq l0 x5_1 x6_1 x7_1 a1_0 a1_1 = some r) ∧ Aside0 (kq ≤ k) ∧ Aside0 (Kd.R k59 59 w' w.heap.size (fun k_ => k_ ≠ gb596) v5 x5_1) ∧ Aside0 (w'.heap[gb596]? = some (.cells #[.int .i64 a1_0, .int .i64 a1_1] 59 (0, 0))) ∧ Aside0 (Below w.heap.size w w'))
 case atStart => exact ⟨(y597), (false), (0), zr, zr, H', ⟨Nat.le_refl _⟩, ⟨by (with_reducible repeat (first | apply Kd.R_alloc | apply Kd.R_drewN | apply Kd.R_drew)); exact Kd.R_mono HO599.out (fun _ hk => hk.2)⟩, ⟨mB_ BK596.out⟩, ⟨zs GE596.out⟩⟩
 case round =>
  clear H'
  try clear c1
  try clear p2
  obtain ⟨x5_1, x6_1, x7_1, rfl, rfl, HA, HK1, HO_5, BK596, HB⟩ := hrel
  cases gk with
  | zero => exact absurd HA.out (by simp [spec_l02Insert.l0])
  | succ k1 =>
   have H := HA.out
   clear HA
   simp only [spec_l02Insert.l0] at H
   by_cases c6 : x7_1 < (l0.length : Int)
   rotate_left
   ·rw [if_neg c6] at H
    have c6b0 : decide (x7_1 < (l0.length : Int)) = false := decide_eq_false c6
    clear c6
    by_cases c26 : x6_1 = true
    ·subst c26
     have H1 : (some x5_1) = some r := by rw [if_pos rfl] at H; exact H
     clear H
     have H := H1
     clear H1
     obtain rfl := Option.some.inj H
     go_wp2
     go_ret
     exact ⟨_, zw, by (with_reducible repeat (first | apply Kd.R_alloc | apply Kd.R_drewN | apply Kd.R_drew)); exact Kd.R_mono HO_5.out (fun _ hk => trivial), zs GE596.out⟩
    replace c26 := Bool.eq_false_iff.mpr c26
    subst c26
    have H1 : (if x5_1.length < 8796093022208 then (some (x5_1 ++ [(⟨a1_0, a1_1⟩ : S59)])) else (none)) = some r := by rw [if_neg (show ¬ (false = true) by decide)] at H; exact H
    clear H
    have H := H1
    clear H1
    by_cases c27 : x5_1.length < 8796093022208
    rotate_left
    ·rw [if_neg c27] at H
     exact absurd H (by simp)
    rw [if_pos c27] at H
    have LMc27 := aM c27
    clear c27
    obtain ⟨y617, hy617⟩ : ∃ y_ : List (S59), y_ = (x5_1 ++ [(⟨a1_0, a1_1⟩ : S59)]) := ⟨_, rfl⟩
    replace H : (some y617) = some r := zy H hy617
    have Ny617 := aM hy617
    clear hy617
    obtain rfl := Option.some.inj H
    have hcz28_0 : wr.cell? ⟨gb596, 0, none⟩ = some (.int .i64 a1_0) := (blk_cell BK596.out 0).trans rfl
    have hcz28_1 : wr.cell? ⟨gb596, 1, none⟩ = some (.int .i64 a1_1) := (blk_cell BK596.out 1).trans rfl
    have hfz28_0 := blk_frozen BK596.out 0
    have hfz28_1 := blk_frozen BK596.out 1
    go_wp2_with (first | ((with_reducible refine gate_builtin (b := .append) (xs := #[.tmp 38, .tmp 40]) rfl ?_); at_builtin; refine Kd.R_append k59 (w0 := w) w.heap.size rfl (.tmp 38) (.tmp 40) 43 59 (.agg #[(.int .i64 0), (.int .i64 0)]) 16 rfl Try.underlying43 info59 rfl (by decide) (by omega) u5 x5_1 (⟨a1_0, a1_1⟩ : S59) [.int .i64 a1_0, .int .i64 a1_1] (fun k_ => k_ ≠ gb596) (fun _ => False) rfl rfl ?aP (fun _ hk => hk.elim) ?aF ?aO ?aB ?aS ?aL ?_; (case aP => exact k59_mkM _ _ _ (⟨a1_0, a1_1⟩ : S59)); (case aB => exact (zs GE596.out)); (case aF => exact (fun k_ hk => Kd.freshB (g := gb596) (o := .cells #[.int .i64 a1_0, .int .i64 a1_1] 59 (0, 0)) (mB_ BK596.out) k_ hk)); (case aO => exact (mR_ HO_5.out)); (case aS => exact (below_size (zs GE596.out))); (case aL => have := LMc27.out; omega); intro v618 w29 ho hb hg hat; rw [← Ny617.out] at ho; have n0_ := aM (blk_grown (g := gb596) (o := .cells #[.int .i64 a1_0, .int .i64 a1_1] 59 (0, 0)) (mB_ BK596.out) hg (Kd.R_away HO_5.out (fun _ hk => hk))); have n1_ := aM (hb); have n2_ := aM (ho); clear BK596; clear HB; clear HO_5; have BK596 := n0_; have HB := n1_; have HO619 := n2_; clear n0_ n1_ n2_; clear ho hb hg hat))
    go_ret
    exact ⟨_, zw, by (with_reducible repeat (first | apply Kd.R_alloc | apply Kd.R_drewN | apply Kd.R_drew)); exact Kd.R_mono HO619.out (fun _ hk => trivial), zs GE596.out⟩
   rw [if_pos c6] at H
   have c6b0 : decide (x7_1 < (l0.length : Int)) = true := decide_eq_true c6
   clear c6
   by_cases c7 : x6_1 = true
   ·subst c7
    have H1 : (if 0 ≤ x7_1 then (if x5_1.length < 8796093022208 then (spec_l02Insert.l0 k1 l0 (x5_1 ++ [(⟨(rd_T59 l0 x7_1).f0, (rd_T59 l0 x7_1).f1⟩ : S59)]) true (wrap64 (x7_1 + 1)) a1_0 a1_1) else (none)) else (none)) = some r := by rw [if_pos rfl] at H; exact H
    clear H
    have H := H1
    clear H1
    by_cases c8 : 0 ≤ x7_1
    rotate_left
    ·rw [if_neg c8] at H
     exact absurd H (by simp)
    rw [if_pos c8] at H
    have c8b0 : decide (0 ≤ x7_1) = true := decide_eq_true c8
    clear c8
    by_cases c9 : x5_1.length < 8796093022208
    rotate_left
    ·rw [if_neg c9] at H
     exact absurd H (by simp)
    rw [if_pos c9] at H
    have LMc9 := aM c9
    clear c9
    obtain ⟨y601, hy601⟩ : ∃ y_ : List (S59), y_ = (x5_1 ++ [(⟨(rd_T59 l0 x7_1).f0, (rd_T59 l0 x7_1).f1⟩ : S59)]) := ⟨_, rfl⟩
    replace H : (spec_l02Insert.l0 k1 l0 y601 true (wrap64 (x7_1 + 1)) a1_0 a1_1) = some r := zy H hy601
    have Ny601 := aM hy601
    clear hy601
    have H' := aM H
    clear H
    try go_wp2
    have n0_ := aM (Kd.R_drew HO_5.out)
    have n1_ := aM (blk_drew BK596.out)
    have n2_ := aM (below_drew1 HB.out)
    clear HO_5
    clear BK596
    clear HB
    have HO_5 := n0_
    have BK596 := n1_
    have HB := n2_
    clear n0_ n1_ n2_
    refine start_ (n := 10) (S := fun w' => True) (ds := []) #[false, false, false, false, false, false, false, false, false, false] (by kernel_rfl) rfl rfl trivial (fun hHeld => ?_); refine with_tabW spec_l02Insert.tab6 spec_l02Insert.bits6 (fun HT_ HW_ => ?_)
    generalize wr.drew = w10 at HO_5 BK596 HB hHeld ⊢
    refine pure_ (i := 0) (N := some 15) (v := ?_) (a' := ?_) #[true, false, false, false, false, false, false, false, false, false] rfl rfl zz (fun _ _ _ h => h) (Or.inl ⟨by rfl, ?_⟩) ?_ ?_
    rotate_left
    ·intro w'
     go_simp
     with_reducible rfl
    rotate_left
    ·simp only [Act.put, xA, xB, xC, i64_w, i32_w]
     rfl
    refine pure_ (i := 1) (N := some 16) (v := ?_) (a' := ?_) #[true, true, false, false, false, false, false, false, false, false] rfl rfl zz (fun _ _ _ h => h) (Or.inl ⟨by rfl, ?_⟩) ?_ ?_
    rotate_left
    ·intro w'
     go_simp
     with_reducible rfl
    rotate_left
    ·simp only [Act.put, xA, xB, xC, i64_w, i32_w]
     rfl
    refine pure_ (i := 2) (N := some 17) (v := ?_) (a' := ?_) #[true, true, true, false, false, false, false, false, false, false] rfl rfl zz (fun _ _ _ h => h) (Or.inl ⟨by rfl, ?_⟩) ?_ ?_
    rotate_left
    ·intro w'
     go_simp
     with_reducible rfl
    rotate_left
    ·simp only [Act.put, xA, xB, xC, i64_w, i32_w]
     rfl
    refine pure_ (i := 3) (N := some 18) (v := undef) (a' := ?_) #[true, true, true, true, false, false, false, false, false, false] rfl rfl zz (fun _ _ _ h => h) (Or.inr ⟨by rfl, rfl⟩) ?_ ?_
    rotate_left
    ·simp only [Act.put, xA, xB, xC, i64_w, i32_w]
     rfl
    refine pure_ (i := 4) (N := some 19) (v := undef) (a' := ?_) #[true, true, true, true, true, false, false, false, false, false] rfl rfl zz (fun _ _ _ h => h) (Or.inr ⟨by rfl, rfl⟩) ?_ ?_
    rotate_left
    ·simp only [Act.put, xA, xB, xC, i64_w, i32_w]
     rfl
    refine pure_ (i := 5) (N := some 20) (v := undef) (a' := ?_) #[true, true, true, true, true, true, false, false, false, false] rfl rfl zz (fun _ _ _ h => h) (Or.inr ⟨by rfl, rfl⟩) ?_ ?_
    rotate_left
    ·simp only [Act.put, xA, xB, xC, i64_w, i32_w]
     rfl
    refine pure_ (i := 6) (N := some 21) (v := undef) (a' := ?_) #[true, true, true, true, true, true, true, false, false, false] rfl rfl zz (fun _ _ _ h => h) (Or.inr ⟨by rfl, rfl⟩) ?_ ?_
    rotate_left
    ·simp only [Act.put, xA, xB, xC, i64_w, i32_w]
     rfl
    refine pure_ (i := 7) (N := some 22) (v := undef) (a' := ?_) #[true, true, true, true, true, true, true, true, false, false] rfl rfl zz (fun _ _ _ h => h) (Or.inr ⟨by rfl, rfl⟩) ?_ ?_
    rotate_left
    ·simp only [Act.put, xA, xB, xC, i64_w, i32_w]
     rfl
    refine pure_ (i := 8) (N := some 23) (v := undef) (a' := ?_) #[true, true, true, true, true, true, true, true, true, false] rfl rfl zz (fun _ _ _ h => h) (Or.inr ⟨by rfl, rfl⟩) ?_ ?_
    rotate_left
    ·simp only [Act.put, xA, xB, xC, i64_w, i32_w]
     rfl
    refine pure_ (i := 9) (N := some 24) (v := ?_) (a' := ?_) #[true, true, true, true, true, true, true, true, true, true] rfl rfl zz (fun _ _ _ h => h) (Or.inl ⟨by rfl, ?_⟩) ?_ ?_
    rotate_left
    ·intro w'
     go_simp
     with_reducible rfl
    rotate_left
    ·simp only [Act.put, xA, xB, xC, i64_w, i32_w]
     rfl
    refine done_ (done_of HT_.out (by kernel_rfl)) ?_
    have p600 : 0 ≤ (x7_1 : Int) := of_decide_eq_true za
    have q600 : x7_1 < (l0.length : Int) := of_decide_eq_true za
    obtain ⟨ad600, e600, hx600_0, hx600_1⟩ := at_T59 HR0.out x7_1 p600 q600
    cases e600
    replace hx600_0 := (HB.out.cell (World.block_lt_of_cell? w _ hx600_0)).trans hx600_0
    replace hx600_1 := (HB.out.cell (World.block_lt_of_cell? w _ hx600_1)).trans hx600_1
    replace p600 := eq_true p600
    replace q600 := eq_true q600
    try go_wp2_with (first | ((with_reducible refine gate_builtin (b := .append) (xs := #[.tmp 29, .tmp 34]) rfl ?_); at_builtin; refine Kd.R_append k59 (w0 := w) w.heap.size rfl (.tmp 29) (.tmp 34) 43 59 (.agg #[(.int .i64 0), (.int .i64 0)]) 16 rfl Try.underlying43 info59 rfl (by decide) (by omega) u5 x5_1 (⟨(rd_T59 l0 x7_1).f0, (rd_T59 l0 x7_1).f1⟩ : S59) [.int .i64 ((rd_T59 l0 x7_1).f0), .int .i64 ((rd_T59 l0 x7_1).f1)] (fun k_ => k_ ≠ gb596) (fun _ => False) rfl rfl ?aP (fun _ hk => hk.elim) ?aF ?aO ?aB ?aS ?aL ?_; (case aP => exact k59_mkM _ _ _ (⟨(rd_T59 l0 x7_1).f0, (rd_T59 l0 x7_1).f1⟩ : S59)); (case aB => exact (zs GE596.out)); (case aF => exact (fun k_ hk => Kd.freshB (g := gb596) (o := .cells #[.int .i64 a1_0, .int .i64 a1_1] 59 (0, 0)) (mB_ BK596.out) k_ hk)); (case aO => exact (mR_ HO_5.out)); (case aS => exact (below_size (zs GE596.out))); (case aL => have := LMc9.out; omega); intro v602 w11 ho hb hg hat; rw [← Ny601.out] at ho; have n0_ := aM (blk_grown (g := gb596) (o := .cells #[.int .i64 a1_0, .int .i64 a1_1] 59 (0, 0)) (mB_ BK596.out) hg (Kd.R_away HO_5.out (fun _ hk => hk))); have n1_ := aM (hb); have n2_ := aM (ho); clear BK596; clear HB; clear HO_5; have BK596 := n0_; have HB := n1_; have HO603 := n2_; clear n0_ n1_ n2_; clear ho hb hg hat))
    go_roundg k1
    case measure => have := HK1.out; omega
    case rel => exact ⟨(y601), (true), (wrap64 (x7_1 + 1)), zr, zr, H', ⟨by have := HK1.out; omega⟩, ⟨mR_ HO603.out⟩, ⟨mB_ BK596.out⟩, ⟨zs GE596.out⟩⟩
   replace c7 := Bool.eq_false_iff.mpr c7
   subst c7
   have H1 : (if 0 ≤ x7_1 then ((spec_l02Less.f a1_0 a1_1 ((rd_T59 l0 x7_1).f0) ((rd_T59 l0 x7_1).f1)).bind fun t605 => (if t605 = true then (if x5_1.length < 8796093022208 then ((some (x5_1 ++ [(⟨a1_0, a1_1⟩ : S59)] : List (S59))).bind fun y606 => (if y606.length < 8796093022208 then (spec_l02Insert.l0 k1 l0 (y606 ++ [(⟨(rd_T59 l0 x7_1).f0, (rd_T59 l0 x7_1).f1⟩ : S59)]) true (wrap64 (x7_1 + 1)) a1_0 a1_1) else (none))) else (none)) else (if x5_1.length < 8796093022208 then (spec_l02Insert.l0 k1 l0 (x5_1 ++ [(⟨(rd_T59 l0 x7_1).f0, (rd_T59 l0 x7_1).f1⟩ : S59)]) false (wrap64 (x7_1 + 1)) a1_0 a1_1) else (none)))) else (none)) = some r := by rw [if_neg (show ¬ (false = true) by decide)] at H; exact H
   clear H
   have H := H1
   clear H1
   by_cases c12 : 0 ≤ x7_1
   rotate_left
   ·rw [if_neg c12] at H
    exact absurd H (by simp)
   rw [if_pos c12] at H
   have c12b0 : decide (0 ≤ x7_1) = true := decide_eq_true c12
   clear c12
   replace H := Option.bind_eq_some_iff.mp H
   obtain ⟨t605, A130, H⟩ := H
   replace H : (if t605 = true then (if x5_1.length < 8796093022208 then ((some (x5_1 ++ [(⟨a1_0, a1_1⟩ : S59)] : List (S59))).bind fun y606 => (if y606.length < 8796093022208 then (spec_l02Insert.l0 k1 l0 (y606 ++ [(⟨(rd_T59 l0 x7_1).f0, (rd_T59 l0 x7_1).f1⟩ : S59)]) true (wrap64 (x7_1 + 1)) a1_0 a1_1) else (none))) else (none)) else (if x5_1.length < 8796093022208 then (spec_l02Insert.l0 k1 l0 (x5_1 ++ [(⟨(rd_T59 l0 x7_1).f0, (rd_T59 l0 x7_1).f1⟩ : S59)]) false (wrap64 (x7_1 + 1)) a1_0 a1_1) else (none))) = some r := H
   have A13 := aM A130
   clear A130
   by_cases c14 : t605 = true
   rotate_left
   ·replace c14 := Bool.eq_false_iff.mpr c14
    subst c14
    have H1 : (if x5_1.length < 8796093022208 then (spec_l02Insert.l0 k1 l0 (x5_1 ++ [(⟨(rd_T59 l0 x7_1).f0, (rd_T59 l0 x7_1).f1⟩ : S59)]) false (wrap64 (x7_1 + 1)) a1_0 a1_1) else (none)) = some r := by rw [if_neg (show ¬ (false = true) by decide)] at H; exact H
    clear H
    have H := H1
    clear H1
    by_cases c22 : x5_1.length < 8796093022208
    rotate_left
    ·rw [if_neg c22] at H
     exact absurd H (by simp)
    rw [if_pos c22] at H
    have LMc22 := aM c22
    clear c22
    obtain ⟨y614, hy614⟩ : ∃ y_ : List (S59), y_ = (x5_1 ++ [(⟨(rd_T59 l0 x7_1).f0, (rd_T59 l0 x7_1).f1⟩ : S59)]) := ⟨_, rfl⟩
    replace H : (spec_l02Insert.l0 k1 l0 y614 false (wrap64 (x7_1 + 1)) a1_0 a1_1) = some r := zy H hy614
    have Ny614 := aM hy614
    clear hy614
    have H' := aM H
    clear H
    try go_wp2
    have n0_ := aM (Kd.R_drew HO_5.out)
    have n1_ := aM (blk_drew BK596.out)
    have n2_ := aM (below_drew1 HB.out)
    clear HO_5
    clear BK596
    clear HB
    have HO_5 := n0_
    have BK596 := n1_
    have HB := n2_
    clear n0_ n1_ n2_
    have p604 : 0 ≤ (x7_1 : Int) := of_decide_eq_true za
    have q604 : x7_1 < (l0.length : Int) := of_decide_eq_true za
    obtain ⟨ad604, e604, hx604_0, hx604_1⟩ := at_T59 HR0.out x7_1 p604 q604
    have hw604_1 := hx604_1
    have hw604_0 := hx604_0
    cases e604
    replace hx604_0 := (HB.out.cell (World.block_lt_of_cell? w _ hx604_0)).trans hx604_0
    replace hx604_1 := (HB.out.cell (World.block_lt_of_cell? w _ hx604_1)).trans hx604_1
    replace p604 := eq_true p604
    replace q604 := eq_true q604
    refine start_ (n := 10) (S := fun w' => w'.cell? ⟨gb596, 0, none⟩ = some (.int .i64 a1_0) ∧ w'.cell? ⟨gb596, 1, none⟩ = some (.int .i64 a1_1) ∧ w'.cell? (ad604.add ((x7_1).toNat * 2)) = some (.int .i64 ((rd_T59 l0 x7_1).f0)) ∧ w'.cell? ⟨(ad604.add ((x7_1).toNat * 2)).block, (ad604.add ((x7_1).toNat * 2)).off + 1, none⟩ = some (.int .i64 ((rd_T59 l0 x7_1).f1))) (ds := []) #[false, false, false, false, false, false, false, false, false, false] (by kernel_rfl) rfl rfl ⟨(blk_cell BK596.out 0).trans rfl, (blk_cell BK596.out 1).trans rfl, ((HB.out.cell (World.block_lt_of_cell? w _ hw604_0)).trans hw604_0), ((HB.out.cell (World.block_lt_of_cell? w _ hw604_1)).trans hw604_1)⟩ (fun hHeld => ?_); refine with_tabW spec_l02Insert.tab6 spec_l02Insert.bits6 (fun HT_ HW_ => ?_)
    generalize wr.drew = w23 at HO_5 BK596 HB hx604_0 hx604_1 hHeld ⊢
    refine pure_ (i := 0) (N := some 15) (v := ?_) (a' := ?_) #[true, false, false, false, false, false, false, false, false, false] rfl rfl zz (fun _ _ _ h => h) (Or.inl ⟨by rfl, ?_⟩) ?_ ?_
    rotate_left
    ·intro w'
     go_simp
     with_reducible rfl
    rotate_left
    ·simp only [Act.put, xA, xB, xC, i64_w, i32_w]
     rfl
    refine pure_ (i := 1) (N := some 16) (v := ?_) (a' := ?_) #[true, true, false, false, false, false, false, false, false, false] rfl rfl zz (fun _ _ _ h => h) (Or.inl ⟨by rfl, ?_⟩) ?_ ?_
    rotate_left
    ·intro w'
     go_simp
     with_reducible rfl
    rotate_left
    ·simp only [Act.put, xA, xB, xC, i64_w, i32_w]
     rfl
    refine pure_ (i := 2) (N := some 17) (v := ?_) (a' := ?_) #[true, true, true, false, false, false, false, false, false, false] rfl rfl zz (fun _ _ _ h => h) (Or.inl ⟨by rfl, ?_⟩) ?_ ?_
    rotate_left
    ·intro w'
     go_simp
     with_reducible rfl
    rotate_left
    ·simp only [Act.put, xA, xB, xC, i64_w, i32_w]
     rfl
    refine pure_ (i := 4) (N := some 19) (v := ?_) (a' := ?_) #[true, true, true, false, true, false, false, false, false, false] rfl rfl zz (fun _ _ _ h => h) (Or.inl ⟨by rfl, ?_⟩) ?_ ?_
    rotate_left
    ·intro w'
     go_simp
     with_reducible rfl
    rotate_left
    ·simp only [Act.put, xA, xB, xC, i64_w, i32_w]
     rfl
    refine pure_ (i := 5) (N := some 20) (v := ?_) (a' := ?_) #[true, true, true, false, true, true, false, false, false, false] rfl rfl zz (fun _ _ _ h => h) (Or.inl ⟨by rfl, ?_⟩) ?_ ?_
    rotate_left
    ·intro w'
     go_simp
     with_reducible rfl
    rotate_left
    ·simp only [Act.put, xA, xB, xC, i64_w, i32_w]
     rfl
    refine pure_ (i := 6) (N := some 21) (v := ?_) (a' := ?_) #[true, true, true, false, true, true, true, false, false, false] rfl rfl zz (fun _ _ _ h => h) (Or.inl ⟨by rfl, ?_⟩) ?_ ?_
    rotate_left
    ·intro w'
     go_simp
     with_reducible rfl
    rotate_left
    ·simp only [Act.put, xA, xB, xC, i64_w, i32_w]
     rfl
    refine take_ (i := 3) (N := some 18) (v := ?_) (a' := ?_) #[true, true, true, true, true, true, true, false, false, false] rfl rfl (take_ofW HT_.out HW_.out (by kernel_rfl)) (fun _ _ _ h => h) (Or.inl ⟨by rfl, ?_⟩) hHeld ?_ ?_
    rotate_left
    ·rintro w' ⟨s0, s1, s2, s3⟩
     go_simp
     with_reducible rfl
    rotate_left
    ·simp only [Act.put, xA, xB, xC, i64_w, i32_w]
     rfl
    refine take_ (i := 7) (N := some 22) (v := ?_) (a' := ?_) #[true, true, true, true, true, true, true, true, false, false] rfl rfl (take_ofW HT_.out HW_.out (by kernel_rfl)) (fun _ _ _ h => h) (Or.inl ⟨by rfl, ?_⟩) hHeld ?_ ?_
    rotate_left
    ·rintro w' ⟨s0, s1, s2, s3⟩
     go_simp
     with_reducible rfl
    rotate_left
    ·simp only [Act.put, xA, xB, xC, i64_w, i32_w]
     rfl
    refine one_ (i := 8) (N := some 23) #[true, true, true, true, true, true, true, true, true, false] rfl rfl (one_of HT_.out (by kernel_rfl)) (by decide) (fun K hK => ?_)
    refine goes_ Try.func141 (by kernel_rfl) rfl #[.agg #[.int .i64 a1_0, .int .i64 a1_1], .agg #[.int .i64 ((rd_T59 l0 x7_1).f0), .int .i64 ((rd_T59 l0 x7_1).f1)]] (by rfl) rfl rfl zm ?_
    with_reducible refine (spec_l02Less.calls a1_0 a1_1 ((rd_T59 l0 x7_1).f0) ((rd_T59 l0 x7_1).f1) false _ A13.out).mono ?_
    rintro e w24 ⟨rfl, hb⟩
    refine ⟨_, rfl, ?_⟩
    have n0_ := aM (Kd.R_below (mR_ HO_5.out) hb)
    have n1_ := aM (blk_below (g := gb596) (o := .cells #[.int .i64 a1_0, .int .i64 a1_1] 59 (0, 0)) (mB_ BK596.out) hb)
    have n2_ := aM (below_step (zs GE596.out) hb)
    clear HO_5
    clear BK596
    clear HB
    have HO_5 := n0_
    have BK596 := n1_
    have HB := n2_
    clear n0_ n1_ n2_
    (try clear hb)
    (try clear hb2)
    (try clear hk)
    (try clear hi)
    refine hK.out _ _ ⟨(blk_cell BK596.out 0).trans rfl, (blk_cell BK596.out 1).trans rfl, ((HB.out.cell (World.block_lt_of_cell? w _ hw604_0)).trans hw604_0), ((HB.out.cell (World.block_lt_of_cell? w _ hw604_1)).trans hw604_1)⟩ (fun hHeld => ?_)
    clear hK K
    refine norm_ (a' := ?_) ?_ ?_
    rotate_left
    ·show Act.put _ (some 23) _ = _
     simp only [Act.put, xA, xB, xC, i64_w, i32_w]
     rfl
    refine pure_ (i := 9) (N := some 24) (v := ?_) (a' := ?_) #[true, true, true, true, true, true, true, true, true, true] rfl rfl zz (fun _ _ _ h => h) (Or.inl ⟨by rfl, ?_⟩) ?_ ?_
    rotate_left
    ·intro w'
     go_simp
     with_reducible rfl
    rotate_left
    ·simp only [Act.put, xA, xB, xC, i64_w, i32_w]
     rfl
    refine done_ (done_of HT_.out (by kernel_rfl)) ?_
    have p613 : 0 ≤ (x7_1 : Int) := of_decide_eq_true za
    have q613 : x7_1 < (l0.length : Int) := of_decide_eq_true za
    obtain ⟨ad613, e613, hx613_0, hx613_1⟩ := at_T59 HR0.out x7_1 p613 q613
    obtain rfl : ad604 = ad613 := (by injection e613)
    replace hx613_0 := (HB.out.cell (World.block_lt_of_cell? w _ hx613_0)).trans hx613_0
    replace hx613_1 := (HB.out.cell (World.block_lt_of_cell? w _ hx613_1)).trans hx613_1
    replace p613 := eq_true p613
    replace q613 := eq_true q613
    try go_wp2_with (first | ((with_reducible refine gate_builtin (b := .append) (xs := #[.tmp 29, .tmp 34]) rfl ?_); at_builtin; refine Kd.R_append k59 (w0 := w) w.heap.size rfl (.tmp 29) (.tmp 34) 43 59 (.agg #[(.int .i64 0), (.int .i64 0)]) 16 rfl Try.underlying43 info59 rfl (by decide) (by omega) u5 x5_1 (⟨(rd_T59 l0 x7_1).f0, (rd_T59 l0 x7_1).f1⟩ : S59) [.int .i64 ((rd_T59 l0 x7_1).f0), .int .i64 ((rd_T59 l0 x7_1).f1)] (fun k_ => k_ ≠ gb596) (fun _ => False) rfl rfl ?aP (fun _ hk => hk.elim) ?aF ?aO ?aB ?aS ?aL ?_; (case aP => exact k59_mkM _ _ _ (⟨(rd_T59 l0 x7_1).f0, (rd_T59 l0 x7_1).f1⟩ : S59)); (case aB => exact (zs GE596.out)); (case aF => exact (fun k_ hk => Kd.freshB (g := gb596) (o := .cells #[.int .i64 a1_0, .int .i64 a1_1] 59 (0, 0)) (mB_ BK596.out) k_ hk)); (case aO => exact (mR_ HO_5.out)); (case aS => exact (below_size (zs GE596.out))); (case aL => have := LMc22.out; omega); intro v615 w25 ho hb hg hat; rw [← Ny614.out] at ho; have n0_ := aM (blk_grown (g := gb596) (o := .cells #[.int .i64 a1_0, .int .i64 a1_1] 59 (0, 0)) (mB_ BK596.out) hg (Kd.R_away HO_5.out (fun _ hk => hk))); have n1_ := aM (hb); have n2_ := aM (ho); clear BK596; clear HB; clear HO_5; have BK596 := n0_; have HB := n1_; have HO616 := n2_; clear n0_ n1_ n2_; clear ho hb hg hat))
    go_roundg k1
    case measure => have := HK1.out; omega
    case rel => exact ⟨(y614), (false), (wrap64 (x7_1 + 1)), zr, zr, H', ⟨by have := HK1.out; omega⟩, ⟨mR_ HO616.out⟩, ⟨mB_ BK596.out⟩, ⟨zs GE596.out⟩⟩
   subst c14
   have H1 : (if x5_1.length < 8796093022208 then ((some (x5_1 ++ [(⟨a1_0, a1_1⟩ : S59)] : List (S59))).bind fun y606 => (if y606.length < 8796093022208 then (spec_l02Insert.l0 k1 l0 (y606 ++ [(⟨(rd_T59 l0 x7_1).f0, (rd_T59 l0 x7_1).f1⟩ : S59)]) true (wrap64 (x7_1 + 1)) a1_0 a1_1) else (none))) else (none)) = some r := by rw [if_pos rfl] at H; exact H
   clear H
   have H := H1
   clear H1
   by_cases c15 : x5_1.length < 8796093022208
   rotate_left
   ·rw [if_neg c15] at H
    exact absurd H (by simp)
   rw [if_pos c15] at H
   have LMc15 := aM c15
   clear c15
   obtain ⟨y606, hy606⟩ : ∃ y_ : List (S59), y_ = (x5_1 ++ [(⟨a1_0, a1_1⟩ : S59)]) := ⟨_, rfl⟩
   replace H : (if y606.length < 8796093022208 then (spec_l02Insert.l0 k1 l0 (y606 ++ [(⟨(rd_T59 l0 x7_1).f0, (rd_T59 l0 x7_1).f1⟩ : S59)]) true (wrap64 (x7_1 + 1)) a1_0 a1_1) else (none)) = some r := zy H hy606
   have Ny606 := aM hy606
   clear hy606
   by_cases c16 : y606.length < 8796093022208
   rotate_left
   ·rw [if_neg c16] at H
    exact absurd H (by simp)
   rw [if_pos c16] at H
   have LMc16 := aM c16
   clear c16
   obtain ⟨y610, hy610⟩ : ∃ y_ : List (S59), y_ = (y606 ++ [(⟨(rd_T59 l0 x7_1).f0, (rd_T59 l0 x7_1).f1⟩ : S59)]) := ⟨_, rfl⟩
   replace H : (spec_l02Insert.l0 k1 l0 y610 true (wrap64 (x7_1 + 1)) a1_0 a1_1) = some r := zy H hy610
   have Ny610 := aM hy610
   clear hy610
   have H' := aM H
   clear H
   try go_wp2
   have n0_ := aM (Kd.R_drew HO_5.out)
   have n1_ := aM (blk_drew BK596.out)
   have n2_ := aM (below_drew1 HB.out)
   clear HO_5
   clear BK596
   clear HB
   have HO_5 := n0_
   have BK596 := n1_
   have HB := n2_
   clear n0_ n1_ n2_
   have p604 : 0 ≤ (x7_1 : Int) := of_decide_eq_true za
   have q604 : x7_1 < (l0.length : Int) := of_decide_eq_true za
   obtain ⟨ad604, e604, hx604_0, hx604_1⟩ := at_T59 HR0.out x7_1 p604 q604
   have hw604_1 := hx604_1
   have hw604_0 := hx604_0
   cases e604
   replace hx604_0 := (HB.out.cell (World.block_lt_of_cell? w _ hx604_0)).trans hx604_0
   replace hx604_1 := (HB.out.cell (World.block_lt_of_cell? w _ hx604_1)).trans hx604_1
   replace p604 := eq_true p604
   replace q604 := eq_true q604
   refine start_ (n := 10) (S := fun w' => w'.cell? ⟨gb596, 0, none⟩ = some (.int .i64 a1_0) ∧ w'.cell? ⟨gb596, 1, none⟩ = some (.int .i64 a1_1) ∧ w'.cell? (ad604.add ((x7_1).toNat * 2)) = some (.int .i64 ((rd_T59 l0 x7_1).f0)) ∧ w'.cell? ⟨(ad604.add ((x7_1).toNat * 2)).block, (ad604.add ((x7_1).toNat * 2)).off + 1, none⟩ = some (.int .i64 ((rd_T59 l0 x7_1).f1))) (ds := []) #[false, false, false, false, false, false, false, false, false, false] (by kernel_rfl) rfl rfl ⟨(blk_cell BK596.out 0).trans rfl, (blk_cell BK596.out 1).trans rfl, ((HB.out.cell (World.block_lt_of_cell? w _ hw604_0)).trans hw604_0), ((HB.out.cell (World.block_lt_of_cell? w _ hw604_1)).trans hw604_1)⟩ (fun hHeld => ?_); refine with_tabW spec_l02Insert.tab6 spec_l02Insert.bits6 (fun HT_ HW_ => ?_)
   generalize wr.drew = w17 at HO_5 BK596 HB hx604_0 hx604_1 hHeld ⊢
   refine pure_ (i := 0) (N := some 15) (v := ?_) (a' := ?_) #[true, false, false, false, false, false, false, false, false, false] rfl rfl zz (fun _ _ _ h => h) (Or.inl ⟨by rfl, ?_⟩) ?_ ?_
   rotate_left
   ·intro w'
    go_simp
    with_reducible rfl
   rotate_left
   ·simp only [Act.put, xA, xB, xC, i64_w, i32_w]
    rfl
   refine pure_ (i := 1) (N := some 16) (v := ?_) (a' := ?_) #[true, true, false, false, false, false, false, false, false, false] rfl rfl zz (fun _ _ _ h => h) (Or.inl ⟨by rfl, ?_⟩) ?_ ?_
   rotate_left
   ·intro w'
    go_simp
    with_reducible rfl
   rotate_left
   ·simp only [Act.put, xA, xB, xC, i64_w, i32_w]
    rfl
   refine pure_ (i := 2) (N := some 17) (v := ?_) (a' := ?_) #[true, true, true, false, false, false, false, false, false, false] rfl rfl zz (fun _ _ _ h => h) (Or.inl ⟨by rfl, ?_⟩) ?_ ?_
   rotate_left
   ·intro w'
    go_simp
    with_reducible rfl
   rotate_left
   ·simp only [Act.put, xA, xB, xC, i64_w, i32_w]
    rfl
   refine pure_ (i := 4) (N := some 19) (v := ?_) (a' := ?_) #[true, true, true, false, true, false, false, false, false, false] rfl rfl zz (fun _ _ _ h => h) (Or.inl ⟨by rfl, ?_⟩) ?_ ?_
   rotate_left
   ·intro w'
    go_simp
    with_reducible rfl
   rotate_left
   ·simp only [Act.put, xA, xB, xC, i64_w, i32_w]
    rfl
   refine pure_ (i := 5) (N := some 20) (v := ?_) (a' := ?_) #[true, true, true, false, true, true, false, false, false, false] rfl rfl zz (fun _ _ _ h => h) (Or.inl ⟨by rfl, ?_⟩) ?_ ?_
   rotate_left
   ·intro w'
    go_simp
    with_reducible rfl
   rotate_left
   ·simp only [Act.put, xA, xB, xC, i64_w, i32_w]
    rfl
   refine pure_ (i := 6) (N := some 21) (v := ?_) (a' := ?_) #[true, true, true, false, true, true, true, false, false, false] rfl rfl zz (fun _ _ _ h => h) (Or.inl ⟨by rfl, ?_⟩) ?_ ?_
   rotate_left
   ·intro w'
    go_simp
    with_reducible rfl
   rotate_left
   ·simp only [Act.put, xA, xB, xC, i64_w, i32_w]
    rfl
   refine take_ (i := 3) (N := some 18) (v := ?_) (a' := ?_) #[true, true, true, true, true, true, true, false, false, false] rfl rfl (take_ofW HT_.out HW_.out (by kernel_rfl)) (fun _ _ _ h => h) (Or.inl ⟨by rfl, ?_⟩) hHeld ?_ ?_
   rotate_left
   ·rintro w' ⟨s0, s1, s2, s3⟩
    go_simp
    with_reducible rfl
   rotate_left
   ·simp only [Act.put, xA, xB, xC, i64_w, i32_w]
    rfl
   refine take_ (i := 7) (N := some 22) (v := ?_) (a' := ?_) #[true, true, true, true, true, true, true, true, false, false] rfl rfl (take_ofW HT_.out HW_.out (by kernel_rfl)) (fun _ _ _ h => h) (Or.inl ⟨by rfl, ?_⟩) hHeld ?_ ?_
   rotate_left
   ·rintro w' ⟨s0, s1, s2, s3⟩
    go_simp
    with_reducible rfl
   rotate_left
   ·simp only [Act.put, xA, xB, xC, i64_w, i32_w]
    rfl
   refine one_ (i := 8) (N := some 23) #[true, true, true, true, true, true, true, true, true, false] rfl rfl (one_of HT_.out (by kernel_rfl)) (by decide) (fun K hK => ?_)
   refine goes_ Try.func141 (by kernel_rfl) rfl #[.agg #[.int .i64 a1_0, .int .i64 a1_1], .agg #[.int .i64 ((rd_T59 l0 x7_1).f0), .int .i64 ((rd_T59 l0 x7_1).f1)]] (by rfl) rfl rfl zm ?_
   with_reducible refine (spec_l02Less.calls a1_0 a1_1 ((rd_T59 l0 x7_1).f0) ((rd_T59 l0 x7_1).f1) true _ A13.out).mono ?_
   rintro e w18 ⟨rfl, hb⟩
   refine ⟨_, rfl, ?_⟩
   have n0_ := aM (Kd.R_below (mR_ HO_5.out) hb)
   have n1_ := aM (blk_below (g := gb596) (o := .cells #[.int .i64 a1_0, .int .i64 a1_1] 59 (0, 0)) (mB_ BK596.out) hb)
   have n2_ := aM (below_step (zs GE596.out) hb)
   clear HO_5
   clear BK596
   clear HB
   have HO_5 := n0_
   have BK596 := n1_
   have HB := n2_
   clear n0_ n1_ n2_
   (try clear hb)
   (try clear hb2)
   (try clear hk)
   (try clear hi)
   refine hK.out _ _ ⟨(blk_cell BK596.out 0).trans rfl, (blk_cell BK596.out 1).trans rfl, ((HB.out.cell (World.block_lt_of_cell? w _ hw604_0)).trans hw604_0), ((HB.out.cell (World.block_lt_of_cell? w _ hw604_1)).trans hw604_1)⟩ (fun hHeld => ?_)
   clear hK K
   refine norm_ (a' := ?_) ?_ ?_
   rotate_left
   ·show Act.put _ (some 23) _ = _
    simp only [Act.put, xA, xB, xC, i64_w, i32_w]
    rfl
   refine pure_ (i := 9) (N := some 24) (v := ?_) (a' := ?_) #[true, true, true, true, true, true, true, true, true, true] rfl rfl zz (fun _ _ _ h => h) (Or.inl ⟨by rfl, ?_⟩) ?_ ?_
   rotate_left
   ·intro w'
    go_simp
    with_reducible rfl
   rotate_left
   ·simp only [Act.put, xA, xB, xC, i64_w, i32_w]
    rfl
   refine done_ (done_of HT_.out (by kernel_rfl)) ?_
   have hcz19_0 : w18.cell? ⟨gb596, 0, none⟩ = some (.int .i64 a1_0) := (blk_cell BK596.out 0).trans rfl
   have hcz19_1 : w18.cell? ⟨gb596, 1, none⟩ = some (.int .i64 a1_1) := (blk_cell BK596.out 1).trans rfl
   have hfz19_0 := blk_frozen BK596.out 0
   have hfz19_1 := blk_frozen BK596.out 1
   try go_wp2_with (first | ((with_reducible refine gate_builtin (b := .append) (xs := #[.tmp 25, .tmp 27]) rfl ?_); at_builtin; refine Kd.R_append k59 (w0 := w) w.heap.size rfl (.tmp 25) (.tmp 27) 43 59 (.agg #[(.int .i64 0), (.int .i64 0)]) 16 rfl Try.underlying43 info59 rfl (by decide) (by omega) u5 x5_1 (⟨a1_0, a1_1⟩ : S59) [.int .i64 a1_0, .int .i64 a1_1] (fun k_ => k_ ≠ gb596) (fun _ => False) rfl rfl ?aP (fun _ hk => hk.elim) ?aF ?aO ?aB ?aS ?aL ?_; (case aP => exact k59_mkM _ _ _ (⟨a1_0, a1_1⟩ : S59)); (case aB => exact (zs GE596.out)); (case aF => exact (fun k_ hk => Kd.freshB (g := gb596) (o := .cells #[.int .i64 a1_0, .int .i64 a1_1] 59 (0, 0)) (mB_ BK596.out) k_ hk)); (case aO => exact (mR_ HO_5.out)); (case aS => exact (below_size (zs GE596.out))); (case aL => have := LMc15.out; omega); intro v607 w20 ho hb hg hat; rw [← Ny606.out] at ho; have n0_ := aM (blk_grown (g := gb596) (o := .cells #[.int .i64 a1_0, .int .i64 a1_1] 59 (0, 0)) (mB_ BK596.out) hg (Kd.R_away HO_5.out (fun _ hk => hk))); have n1_ := aM (hb); have n2_ := aM (ho); clear BK596; clear HB; clear HO_5; have BK596 := n0_; have HB := n1_; have HO608 := n2_; clear n0_ n1_ n2_; clear ho hb hg hat; have p609 : 0 ≤ (x7_1 : Int) := of_decide_eq_true za; have q609 : x7_1 < (l0.length : Int) := of_decide_eq_true za; obtain ⟨ad609, e609, hx609_0, hx609_1⟩ := at_T59 HR0.out x7_1 p609 q609; obtain rfl : ad604 = ad609 := (by injection e609); replace hx609_0 := (HB.out.cell (World.block_lt_of_cell? w _ hx609_0)).trans hx609_0; replace hx609_1 := (HB.out.cell (World.block_lt_of_cell? w _ hx609_1)).trans hx609_1; replace p609 := eq_true p609; replace q609 := eq_true q609) | ((with_reducible refine gate_builtin (b := .append) (xs := #[.tmp 29, .tmp 34]) rfl ?_); at_builtin; refine Kd.R_append k59 (w0 := w) w.heap.size rfl (.tmp 29) (.tmp 34) 43 59 (.agg #[(.int .i64 0), (.int .i64 0)]) 16 rfl Try.underlying43 info59 rfl (by decide) (by omega) v607 y606 (⟨(rd_T59 l0 x7_1).f0, (rd_T59 l0 x7_1).f1⟩ : S59) [.int .i64 ((rd_T59 l0 x7_1).f0), .int .i64 ((rd_T59 l0 x7_1).f1)] (fun k_ => k_ ≠ gb596) (fun _ => False) rfl rfl ?aP (fun _ hk => hk.elim) ?aF ?aO ?aB ?aS ?aL ?_; (case aP => exact k59_mkM _ _ _ (⟨(rd_T59 l0 x7_1).f0, (rd_T59 l0 x7_1).f1⟩ : S59)); (case aB => exact (zs GE596.out)); (case aF => exact (fun k_ hk => Kd.freshB (g := gb596) (o := .cells #[.int .i64 a1_0, .int .i64 a1_1] 59 (0, 0)) (mB_ BK596.out) k_ hk)); (case aO => exact (mR_ HO608.out)); (case aS => exact (below_size (zs GE596.out))); (case aL => have := LMc16.out; omega); intro v611 w21 ho hb hg hat; rw [← Ny610.out] at ho; have n0_ := aM (blk_grown (g := gb596) (o := .cells #[.int .i64 a1_0, .int .i64 a1_1] 59 (0, 0)) (mB_ BK596.out) hg (Kd.R_away HO608.out (fun _ hk => hk))); have n1_ := aM (hb); have n2_ := aM (ho); clear BK596; clear HB; clear HO608; have BK596 := n0_; have HB := n1_; have HO612 := n2_; clear n0_ n1_ n2_; clear ho hb hg hat))
   go_roundg k1
   case measure => have := HK1.out; omega
   case rel => exact ⟨(y610), (true), (wrap64 (x7_1 + 1)), zr, zr, H', ⟨by have := HK1.out; omega⟩, ⟨mR_ HO612.out⟩, ⟨mB_ BK596.out⟩, ⟨zs GE596.out⟩⟩
mutual
def spec_l02Neighbours.l0 : Nat → List (S59) → List (S59) → Int → Option ((List (S59)))
 | 0, _, _, _ => none
 | k + 1, x0, x3, x4 => if x4 < (x0.length : Int) then (if 0 ≤ x4 then ((spec_l02Around.f ((rd_T59 x0 x4).f0) ((rd_T59 x0 x4).f1)).bind fun t624 => (spec_l02Neighbours.l1 k x0 x3 x4 t624 0)) else (none)) else (some x3)
def spec_l02Neighbours.l1 : Nat → List (S59) → List (S59) → Int → List (S59) → Int → Option ((List (S59)))
 | 0, _, _, _, _, _ => none
 | k + 1, x0, x3, x4, x5, x6 => if x6 < 4 then (if 0 ≤ x6 then (if x6 < (x5.length : Int) then ((spec_l02Index.f k x0 ((rd_T59 x5 x6).f0) ((rd_T59 x5 x6).f1)).bind fun t628 => (if t628 < 0 then ((spec_l02Index.f k x3 ((rd_T59 x5 x6).f0) ((rd_T59 x5 x6).f1)).bind fun t630 => (if t630 < 0 then ((spec_l02Insert.f k x3 ((rd_T59 x5 x6).f0) ((rd_T59 x5 x6).f1)).bind fun t632 => (spec_l02Neighbours.l1 k x0 t632 x4 x5 (wrap64 (x6 + 1)))) else (spec_l02Neighbours.l1 k x0 x3 x4 x5 (wrap64 (x6 + 1))))) else (spec_l02Neighbours.l1 k x0 x3 x4 x5 (wrap64 (x6 + 1))))) else (none)) else (none)) else (spec_l02Neighbours.l0 k x0 x3 (wrap64 (x4 + 1)))
end
def spec_l02Neighbours.f (k : Nat) (l0 : List (S59)) : Option ((List (S59))) := spec_l02Neighbours.l0 k l0 (([] : List (S59))) 0
end Go.Proofs.Ytabdmdkoffpppaa.F
end
