-- PRINTED by print.py (a twelfth state) out of the translation. Not trusted: Lean checks it.
import Derived.Test.YtpjioedfiigefaaFx0
import Derived.Test.YtpjioedfiigefaaFx9
import Derived.Test.YtpjioedfiigefaaFx10
namespace Go.Proofs.Ytpjioedfiigefaa.F
open Go.RowKit Go.Proofs.YtpjioedfiigefaaW.PrintWords Go.Proofs.YtpjioedfiigefaaW.PrintLast Go.Proofs.YtpjioedfiigefaaW.PrintMore
attribute [local go_sem] max2_int min2_int max_two min_two max_three min_three max_four min_four   -- for this text's walks alone
set_option linter.unusedVariables false
set_option linter.unusedSimpArgs false

/-! ### spec_l02Parts: function 119 -/
mutual
def spec_l02Parts.l0 : Nat → List (S67) → List Int → Int → Option (List Int)
  | 0, _, _, _ => none
  | k + 1, x0, x3, x4 => if x4 < (x0.length : Int) then (if x3.length < 17592186044416 then (spec_l02Parts.l0 k x0 (x3 ++ [(-1)]) (wrap64 (x4 + 1))) else (none)) else (spec_l02Parts.l1 k x0 x3 0)
def spec_l02Parts.l1 : Nat → List (S67) → List Int → Int → Option (List Int)
  | 0, _, _, _ => none
  | k + 1, x0, x3, x5 => if x5 < (x0.length : Int) then (if 0 ≤ x5 then (if x5 < (x3.length : Int) then (if (rd x3 x5) ≥ 0 then (spec_l02Parts.l1 k x0 x3 (wrap64 (x5 + 1))) else (spec_l02Parts.l2 k x0 (x3.set (x5 : Int).toNat x5) x5 (([x5] : List Int)))) else (none)) else (none)) else (some x3)
def spec_l02Parts.l2 : Nat → List (S67) → List Int → Int → List Int → Option (List Int)
  | 0, _, _, _, _ => none
  | k + 1, x0, x3, x5, x6 => if (x6.length : Int) > 0 then (if 0 < (x6.length : Int) then (if 0 ≤ (rd x6 0) then (if (rd x6 0) < (x0.length : Int) then ((spec_l02Around.f ((rd_T67 x0 (rd x6 0)).f0) ((rd_T67 x0 (rd x6 0)).f1)).bind fun t446 => (if 1 ≤ (x6.length : Int) then (spec_l02Parts.l3 k x0 x3 x5 (x6.drop (1 : Int).toNat) t446 0) else (none))) else (none)) else (none)) else (none)) else (spec_l02Parts.l1 k x0 x3 (wrap64 (x5 + 1)))
def spec_l02Parts.l3 : Nat → List (S67) → List Int → Int → List Int → List (S67) → Int → Option (List Int)
  | 0, _, _, _, _, _, _ => none
  | k + 1, x0, x3, x5, x6, x7, x8 => if x8 < 4 then (if 0 ≤ x8 then (if x8 < (x7.length : Int) then ((spec_l02Index.f k x0 ((rd_T67 x7 x8).f0) ((rd_T67 x7 x8).f1)).bind fun t453 => (if t453 ≥ 0 then (if 0 ≤ t453 then (if t453 < (x3.length : Int) then (if (rd x3 t453) < 0 then (if x6.length < 17592186044416 then (spec_l02Parts.l3 k x0 (x3.set (t453 : Int).toNat x5) x5 (x6 ++ [t453]) x7 (wrap64 (x8 + 1))) else (none)) else (spec_l02Parts.l3 k x0 x3 x5 x6 x7 (wrap64 (x8 + 1)))) else (none)) else (none)) else (spec_l02Parts.l3 k x0 x3 x5 x6 x7 (wrap64 (x8 + 1))))) else (none)) else (none)) else (spec_l02Parts.l2 k x0 x3 x5 x6)
end
def spec_l02Parts.f (k : Nat) (l0 : List (S67)) : Option (List Int) := spec_l02Parts.l0 k l0 (([] : List Int)) 0
theorem spec_l02Parts.mono_l : ∀ k, (∀ y0 y1 y2, LeO (spec_l02Parts.l0 k y0 y1 y2) (spec_l02Parts.l0 (k + 1) y0 y1 y2)) ∧ (∀ y0 y1 y2, LeO (spec_l02Parts.l1 k y0 y1 y2) (spec_l02Parts.l1 (k + 1) y0 y1 y2)) ∧ (∀ y0 y1 y2 y3, LeO (spec_l02Parts.l2 k y0 y1 y2 y3) (spec_l02Parts.l2 (k + 1) y0 y1 y2 y3)) ∧ (∀ y0 y1 y2 y3 y4 y5, LeO (spec_l02Parts.l3 k y0 y1 y2 y3 y4 y5) (spec_l02Parts.l3 (k + 1) y0 y1 y2 y3 y4 y5))
  | 0 => ⟨fun _ _ _ r h => by simp [spec_l02Parts.l0] at h, fun _ _ _ r h => by simp [spec_l02Parts.l1] at h, fun _ _ _ _ r h => by simp [spec_l02Parts.l2] at h, fun _ _ _ _ _ _ r h => by simp [spec_l02Parts.l3] at h⟩
  | k + 1 => by
    obtain ⟨ih0, ih1, ih2, ih3⟩ := spec_l02Parts.mono_l k
    refine ⟨?_, ?_, ?_, ?_⟩
    · intro y0 y1 y2
      unfold spec_l02Parts.l0
      repeat' first
      | (with_reducible exact ih0 _ _ _)
      | (with_reducible exact ih1 _ _ _)
      | (with_reducible exact ih2 _ _ _ _)
      | (with_reducible exact ih3 _ _ _ _ _ _)
      | (with_reducible exact spec_l02Index.mono _ _ _ _)
      | (with_reducible exact LeO.refl _)
      | (with_reducible exact LeO.none _)
      | (with_reducible refine LeO.ite ?_ ?_)
      | (with_reducible refine LeO.bind ?_ (fun _ => ?_))
      | exact ih0 _ _ _
      | exact ih1 _ _ _
      | exact ih2 _ _ _ _
      | exact ih3 _ _ _ _ _ _
      | exact spec_l02Index.mono _ _ _ _
      | exact LeO.none _
      | refine LeO.ite ?_ ?_
      | refine LeO.bind ?_ (fun _ => ?_)
    · intro y0 y1 y2
      unfold spec_l02Parts.l1
      repeat' first
      | (with_reducible exact ih0 _ _ _)
      | (with_reducible exact ih1 _ _ _)
      | (with_reducible exact ih2 _ _ _ _)
      | (with_reducible exact ih3 _ _ _ _ _ _)
      | (with_reducible exact spec_l02Index.mono _ _ _ _)
      | (with_reducible exact LeO.refl _)
      | (with_reducible exact LeO.none _)
      | (with_reducible refine LeO.ite ?_ ?_)
      | (with_reducible refine LeO.bind ?_ (fun _ => ?_))
      | exact ih0 _ _ _
      | exact ih1 _ _ _
      | exact ih2 _ _ _ _
      | exact ih3 _ _ _ _ _ _
      | exact spec_l02Index.mono _ _ _ _
      | exact LeO.none _
      | refine LeO.ite ?_ ?_
      | refine LeO.bind ?_ (fun _ => ?_)
    · intro y0 y1 y2 y3
      unfold spec_l02Parts.l2
      repeat' first
      | (with_reducible exact ih0 _ _ _)
      | (with_reducible exact ih1 _ _ _)
      | (with_reducible exact ih2 _ _ _ _)
      | (with_reducible exact ih3 _ _ _ _ _ _)
      | (with_reducible exact spec_l02Index.mono _ _ _ _)
      | (with_reducible exact LeO.refl _)
      | (with_reducible exact LeO.none _)
      | (with_reducible refine LeO.ite ?_ ?_)
      | (with_reducible refine LeO.bind ?_ (fun _ => ?_))
      | exact ih0 _ _ _
      | exact ih1 _ _ _
      | exact ih2 _ _ _ _
      | exact ih3 _ _ _ _ _ _
      | exact spec_l02Index.mono _ _ _ _
      | exact LeO.none _
      | refine LeO.ite ?_ ?_
      | refine LeO.bind ?_ (fun _ => ?_)
    · intro y0 y1 y2 y3 y4 y5
      unfold spec_l02Parts.l3
      repeat' first
      | (with_reducible exact ih0 _ _ _)
      | (with_reducible exact ih1 _ _ _)
      | (with_reducible exact ih2 _ _ _ _)
      | (with_reducible exact ih3 _ _ _ _ _ _)
      | (with_reducible exact spec_l02Index.mono _ _ _ _)
      | (with_reducible exact LeO.refl _)
      | (with_reducible exact LeO.none _)
      | (with_reducible refine LeO.ite ?_ ?_)
      | (with_reducible refine LeO.bind ?_ (fun _ => ?_))
      | exact ih0 _ _ _
      | exact ih1 _ _ _
      | exact ih2 _ _ _ _
      | exact ih3 _ _ _ _ _ _
      | exact spec_l02Index.mono _ _ _ _
      | exact LeO.none _
      | refine LeO.ite ?_ ?_
      | refine LeO.bind ?_ (fun _ => ?_)
theorem spec_l02Parts.mono : ∀ a0 k, LeO (spec_l02Parts.f k a0) (spec_l02Parts.f (k + 1) a0) := by
  intro a0 k
  obtain ⟨ih0, ih1, ih2, ih3⟩ := spec_l02Parts.mono_l k
  unfold spec_l02Parts.f
  repeat' first
      | (with_reducible exact ih0 _ _ _)
      | (with_reducible exact ih1 _ _ _)
      | (with_reducible exact ih2 _ _ _ _)
      | (with_reducible exact ih3 _ _ _ _ _ _)
      | (with_reducible exact spec_l02Index.mono _ _ _ _)
      | (with_reducible exact LeO.refl _)
      | (with_reducible exact LeO.none _)
      | (with_reducible refine LeO.ite ?_ ?_)
      | (with_reducible refine LeO.bind ?_ (fun _ => ?_))
      | exact ih0 _ _ _
      | exact ih1 _ _ _
      | exact ih2 _ _ _ _
      | exact ih3 _ _ _ _ _ _
      | exact spec_l02Index.mono _ _ _ _
      | exact LeO.none _
      | refine LeO.ite ?_ ?_
      | refine LeO.bind ?_ (fun _ => ?_)
set_option maxHeartbeats 8000000 in
set_option maxRecDepth 100000 in
theorem spec_l02Parts.calls (k : Nat) (A0 : Option Addr) (c0 : Nat) (l0 : List (S67)) (r : List Int) (w : World) (hr0 : Kd.C k67 w A0 l0.length l0) (hc0 : l0.length ≤ c0) (h : spec_l02Parts.f k l0 = some r) :
    Calls Try.prog 119 #[.slice A0 l0.length c0] w fun e w' => ∃ v0_ : Value, e = .returned (v0_) ∧ Kd.R (Kd.int .i64) 2 w' w.heap.size (fun _ => True) v0_ r ∧ Below w.heap.size w w' := by
  have hu67 := Try.underlying67
  have HR0 := Aside0.mk hr0
  have HC0 := Aside0.mk hc0
  clear hr0 hc0
  have HB := Aside0.mk (Below.refl w.heap.size w)
  have H : (spec_l02Parts.l0 k l0 (([] : List Int)) 0) = some r := h
  clear h
  obtain ⟨y433, hy433⟩ : ∃ y_ : List Int, y_ = (([] : List Int)) := ⟨_, rfl⟩
  replace H : (spec_l02Parts.l0 k l0 y433 0) = some r := by first | (rw [hy433]; with_reducible exact H) | (have H2_ := (Option.bind_some _ _).symm.trans H; rw [hy433]; with_reducible exact H2_) | (have H2_ := (Option.bind_some _ _).symm.trans H; with_reducible exact H2_) | with_reducible exact H | (rw [hy433]; exact H) | exact H
  have Ny433 := Aside0.mk hy433
  clear hy433
  have H' := Aside0.mk H
  clear H
  go_enter Try.func119, Try.ntmps119
  go_wp2_with (first | ((with_reducible refine gate_dst (N := 10) rfl ?_); refine Kd.R_lit (Kd.int .i64) _ 2 ?hg (N := 10) ?hd (xs := ([] : List Int)) (inner := []) (ok := fun _ => True) (okp := fun _ => True) ?hr ?hp (fun _ hk => hk) trivial (Below.refl _ _) (Nat.le_refl _) (by simp) ?_; (case hd => rfl); (case hg => rfl); (case hr => first | (go_simp; done) | (go_simp; rfl)); (case hp => exact (Reps.none _ _)); intro v434 w2 ho3 hb hg_ hnew_; clear hg_ hnew_; (first | rw [← Ny433.out] at ho3 | (simp only [Int.reduceToNat] at ho3; rw [← Ny433.out] at ho3)); have n0_ := Aside0.mk (Kd.R_lower ho3 (below_size (by repeat (first | (with_reducible first | exact HB.out | apply below_alloc | apply pw_below_drewN | apply below_drew1) | exact HB.out)))); have n1_ := Aside0.mk (below_step (by repeat (first | (with_reducible first | exact HB.out | apply below_alloc | apply pw_below_drewN | apply below_drew1) | exact HB.out)) hb); clear HB; have HO435 := n0_; have HB := n1_; clear n0_ n1_; clear hb ho3))
  go_loopg [3, 4] k (fun kq v3 v4 w' => ∃ (x3_1 : List Int) (x4_1 : Int), v4 = .int .i64 x4_1 ∧ Aside0 (spec_l02Parts.l0 kq l0 x3_1 x4_1 = some r) ∧ Aside0 (kq ≤ k) ∧ Aside0 (Kd.R (Kd.int .i64) 2 w' w.heap.size (fun _ => True) v3 x3_1) ∧ Aside0 (Below w.heap.size w w'))
  case atStart => exact ⟨(y433), (0), (by first | rfl | (simp; done) | (simp [*]; done)), H', ⟨Nat.le_refl _⟩, ⟨by (with_reducible repeat (first | apply Kd.R_alloc | apply Kd.R_drewN | apply Kd.R_drew)); exact HO435.out⟩, ⟨by repeat (first | (with_reducible first | exact HB.out | apply below_alloc | apply pw_below_drewN | apply below_drew1) | exact HB.out)⟩⟩
  case round =>
    clear H'
    try clear c1
    try clear p2
    obtain ⟨x3_1, x4_1, rfl, HA, HK1, HO_3, HB⟩ := hrel
    cases gk with
    | zero => exact absurd HA.out (by simp [spec_l02Parts.l0])
    | succ k1 =>
      have H := HA.out
      clear HA
      simp only [spec_l02Parts.l0] at H
      by_cases c4 : x4_1 < (l0.length : Int)
      · rw [if_pos c4] at H
        have c4b0 : decide (x4_1 < (l0.length : Int)) = true := decide_eq_true c4
        clear c4
        by_cases c5 : x3_1.length < 17592186044416
        · rw [if_pos c5] at H
          have LMc5 := Aside0.mk c5
          clear c5
          obtain ⟨y436, hy436⟩ : ∃ y_ : List Int, y_ = (x3_1 ++ [(-1)]) := ⟨_, rfl⟩
          replace H : (spec_l02Parts.l0 k1 l0 y436 (wrap64 (x4_1 + 1))) = some r := by first | (rw [hy436]; with_reducible exact H) | (have H2_ := (Option.bind_some _ _).symm.trans H; rw [hy436]; with_reducible exact H2_) | (have H2_ := (Option.bind_some _ _).symm.trans H; with_reducible exact H2_) | with_reducible exact H | (rw [hy436]; exact H) | exact H
          have Ny436 := Aside0.mk hy436
          clear hy436
          have H' := Aside0.mk H
          clear H
          go_wp2_with (first | ((with_reducible refine gate_builtin (b := .append) (xs := #[.tmp 17, .tmp 18]) rfl ?_); at_builtin; refine Kd.R_append (Kd.int .i64) (w0 := w) w.heap.size rfl (.tmp 17) (.tmp 18) 24 2 (.int .i64 0) 8 rfl Try.underlying24 info2 rfl (by decide) (by omega) u3 x3_1 (-1) [.int .i64 (-1)] (fun _ => True) (fun _ => False) rfl rfl ?aP (fun _ hk => hk.elim) ?aF ?aO ?aB ?aS ?aL ?_; (case aP => exact rfl); (case aB => exact (by repeat (first | (with_reducible first | exact HB.out | apply below_alloc | apply pw_below_drewN | apply below_drew1) | exact HB.out))); (case aF => exact (fun _ _ => trivial)); (case aO => exact (by (with_reducible repeat (first | apply Kd.R_alloc | apply Kd.R_drewN | apply Kd.R_drew)); exact HO_3.out)); (case aS => exact (below_size (by repeat (first | (with_reducible first | exact HB.out | apply below_alloc | apply pw_below_drewN | apply below_drew1) | exact HB.out)))); (case aL => have := LMc5.out; omega); intro v437 w6 ho hb hg hat; rw [← Ny436.out] at ho; have n0_ := Aside0.mk (hb); have n1_ := Aside0.mk (ho); clear HB; clear HO_3; have HB := n0_; have HO438 := n1_; clear n0_ n1_; clear ho hb hg hat))
          go_roundg k1
          case measure => have := HK1.out; omega
          case rel => exact ⟨(y436), (wrap64 (x4_1 + 1)), (by first | rfl | (simp; done) | (simp [*]; done)), H', ⟨by have := HK1.out; omega⟩, ⟨by (with_reducible repeat (first | apply Kd.R_alloc | apply Kd.R_drewN | apply Kd.R_drew)); exact HO438.out⟩, ⟨by repeat (first | (with_reducible first | exact HB.out | apply below_alloc | apply pw_below_drewN | apply below_drew1) | exact HB.out)⟩⟩
        · rw [if_neg c5] at H
          exact absurd H (by simp)
      · rw [if_neg c4] at H
        have c4b0 : decide (x4_1 < (l0.length : Int)) = false := decide_eq_false c4
        clear c4
        have H' := Aside0.mk H
        clear H
        go_wp2
        go_loopg [5] k1 (fun kq v5 w' => ∃ (x3_2 : List Int) (x5_2 : Int), v5 = .int .i64 x5_2 ∧ Aside0 (spec_l02Parts.l1 kq l0 x3_2 x5_2 = some r) ∧ Aside0 (kq ≤ k1) ∧ Aside0 (Kd.R (Kd.int .i64) 2 w' w.heap.size (fun _ => True) u3 x3_2) ∧ Aside0 (Below w.heap.size w w'))
        case atStart => exact ⟨(x3_1), (0), (by first | rfl | (simp; done) | (simp [*]; done)), H', ⟨Nat.le_refl _⟩, ⟨by (with_reducible repeat (first | apply Kd.R_alloc | apply Kd.R_drewN | apply Kd.R_drew)); exact HO_3.out⟩, ⟨by repeat (first | (with_reducible first | exact HB.out | apply below_alloc | apply pw_below_drewN | apply below_drew1) | exact HB.out)⟩⟩
        case round =>
          clear H'
          try clear c1
          try clear p2
          try clear c4
          try clear c4b0
          try clear c5
          try clear p6
          try clear p2
          obtain ⟨x3_2, x5_2, rfl, HA, HK2, HO_3, HB⟩ := hrel
          cases gk with
          | zero => exact absurd HA.out (by simp [spec_l02Parts.l1])
          | succ k2 =>
            have H := HA.out
            clear HA
            simp only [spec_l02Parts.l1] at H
            by_cases c7 : x5_2 < (l0.length : Int)
            · rw [if_pos c7] at H
              have c7b0 : decide (x5_2 < (l0.length : Int)) = true := decide_eq_true c7
              clear c7
              by_cases c8 : 0 ≤ x5_2
              · rw [if_pos c8] at H
                have c8b0 : decide (0 ≤ x5_2) = true := decide_eq_true c8
                clear c8
                by_cases c9 : x5_2 < (x3_2.length : Int)
                · rw [if_pos c9] at H
                  have c9b0 : decide (x5_2 < (x3_2.length : Int)) = true := decide_eq_true c9
                  clear c9
                  by_cases c10 : (rd x3_2 x5_2) ≥ 0
                  · rw [if_pos c10] at H
                    have c10b0 : decide (0 ≤ (rd x3_2 x5_2)) = true := decide_eq_true c10
                    clear c10
                    have H' := Aside0.mk H
                    clear H
                    obtain ⟨Ao11, co11, eo11⟩ := Kd.R_slice HO_3.out
                    subst eo11
                    have p439 : 0 ≤ (x5_2 : Int) := of_decide_eq_true (by first | (with_reducible assumption) | assumption)
                    have q439 : x5_2 < (x3_2.length : Int) := of_decide_eq_true (by first | (with_reducible assumption) | assumption)
                    obtain ⟨ad439, e439, hx439_0⟩ := Kd.at_int (Kd.R_reads' HO_3.out).2.2 x5_2 p439 q439
                    cases e439
                    replace p439 := eq_true p439
                    replace q439 := eq_true q439
                    go_wp2
                    go_roundg k2
                    case measure => have := HK1.out; have := HK2.out; omega
                    case rel => exact ⟨(x3_2), (wrap64 (x5_2 + 1)), (by first | rfl | (simp; done) | (simp [*]; done)), H', ⟨by have := HK1.out; have := HK2.out; omega⟩, ⟨by (with_reducible repeat (first | apply Kd.R_alloc | apply Kd.R_drewN | apply Kd.R_drew)); exact HO_3.out⟩, ⟨by repeat (first | (with_reducible first | exact HB.out | apply below_alloc | apply pw_below_drewN | apply below_drew1) | exact HB.out)⟩⟩
                  · rw [if_neg c10] at H
                    have c10b0 : decide (0 ≤ (rd x3_2 x5_2)) = false := decide_eq_false c10
                    clear c10
                    obtain ⟨y440, hy440⟩ : ∃ y_ : List Int, y_ = (x3_2.set (x5_2 : Int).toNat x5_2) := ⟨_, rfl⟩
                    replace H : (spec_l02Parts.l2 k2 l0 y440 x5_2 (([x5_2] : List Int))) = some r := by first | (rw [hy440]; with_reducible exact H) | (have H2_ := (Option.bind_some _ _).symm.trans H; rw [hy440]; with_reducible exact H2_) | (have H2_ := (Option.bind_some _ _).symm.trans H; with_reducible exact H2_) | with_reducible exact H | (rw [hy440]; exact H) | exact H
                    have Ny440 := Aside0.mk hy440
                    clear hy440
                    obtain ⟨y441, hy441⟩ : ∃ y_ : List Int, y_ = (([x5_2] : List Int)) := ⟨_, rfl⟩
                    replace H : (spec_l02Parts.l2 k2 l0 y440 x5_2 y441) = some r := by first | (rw [hy441]; with_reducible exact H) | (have H2_ := (Option.bind_some _ _).symm.trans H; rw [hy441]; with_reducible exact H2_) | (have H2_ := (Option.bind_some _ _).symm.trans H; with_reducible exact H2_) | with_reducible exact H | (rw [hy441]; exact H) | exact H
                    have Ny441 := Aside0.mk hy441
                    clear hy441
                    have H' := Aside0.mk H
                    clear H
                    obtain ⟨Ao13, co13, eo13⟩ := Kd.R_slice HO_3.out
                    subst eo13
                    have p439 : 0 ≤ (x5_2 : Int) := of_decide_eq_true (by first | (with_reducible assumption) | assumption)
                    have q439 : x5_2 < (x3_2.length : Int) := of_decide_eq_true (by first | (with_reducible assumption) | assumption)
                    obtain ⟨ad439, e439, hx439_0⟩ := Kd.at_int (Kd.R_reads' HO_3.out).2.2 x5_2 p439 q439
                    cases e439
                    replace p439 := eq_true p439
                    replace q439 := eq_true q439
                    have p12 : 0 ≤ (x5_2 : Int) := of_decide_eq_true (by first | (with_reducible assumption) | assumption)
                    have q12 : (x5_2 : Int) < ((x3_2.length : Int) : Int) := of_decide_eq_true (by first | (with_reducible assumption) | assumption)
                    obtain ⟨go12, co12, eo12, gb12, gl12, cl12, HG12⟩ := Kd.R_form HO_3.out (by omega)
                    (first | cases eo12 | (injection eo12 with ea_ en_ ec_; (first | subst ea_ | (injection ea_ with ea_; subst ea_)); subst ec_; clear en_))
                    have GB12 := Aside0.mk gb12
                    have GG12 := Aside0.mk HG12
                    clear gb12 gl12 HG12
                    (first | simp only [add_plain] at hx439_0 | skip)
                    obtain ⟨hx12_0, hf12_0⟩ := Kd.R_celln 0 HO_3.out (x5_2 : Int) p12 q12
                    replace p12 := eq_true p12
                    replace q12 := eq_true q12
                    have HP14 := Kd.R_putg HO_3.out (x5_2 : Int) x5_2
                    go_wp2_with (first | ((with_reducible refine gate_store (t := 2) (p := 34) rfl ?_); refine store_event (t := 2) (p := 34) (v := ?vo_w15) (w1 := (wr.setCell ⟨go12, (x5_2 : Int).toNat, none⟩ (.int .i64 x5_2))) ?hg ?ho ?hn ?hr ?_; (case ho => rfl); (case hg => rfl); (case hn => rfl); (case hr => first | (go_simp; done) | (go_simp; rfl)); intro w15 hw; have hg : wr.grownBy w15 (some go12) := (by rw [hw]; exact HP14.2); have hp_ : Kd.R (Kd.int .i64) 2 w15 w.heap.size (fun _ => True) (.slice (some ⟨go12, 0, none⟩) x3_2.length co13) y440 := (by rw [hw, Ny440.out]; exact HP14.1); clear HP14; have n0_ := Aside0.mk (hp_); have n1_ := Aside0.mk ((by rw [hw]; exact below_set (HB.out) GB12.out : Below w.heap.size w w15)); clear HO_3; clear HB; have HO_3 := n0_; have HB := n1_; clear n0_ n1_; clear hg hw hp_) | ((with_reducible refine gate_dst (N := 36) rfl ?_); refine Kd.R_lit (Kd.int .i64) _ 2 ?hg (N := 36) ?hd (xs := ([x5_2] : List Int)) (inner := [.int .i64 x5_2]) (ok := fun _ => True) (okp := fun _ => True) ?hr ?hp (fun _ hk => hk) trivial (Below.refl _ _) (Nat.le_refl _) (by simp) ?_; (case hd => rfl); (case hg => rfl); (case hr => first | (go_simp; done) | (go_simp; rfl)); (case hp => exact (Reps.one (show Kd.M (Kd.int .i64) _ _ _ x5_2 [.int .i64 x5_2] from rfl) (Reps.none _ _))); intro v442 w16 ho17 hb hg_ hnew_; clear hg_ hnew_; (first | rw [← Ny441.out] at ho17 | (simp only [Int.reduceToNat] at ho17; rw [← Ny441.out] at ho17)); have n0_ := Aside0.mk (Kd.R_elder' (by (with_reducible repeat (first | apply Kd.R_alloc | apply Kd.R_drewN | apply Kd.R_drew)); exact HO_3.out) (Kd.R_base ho17) hb); have n1_ := Aside0.mk (Kd.R_lower (Kd.R_new' ho17 (Kd.R_lt (by (with_reducible repeat (first | apply Kd.R_alloc | apply Kd.R_drewN | apply Kd.R_drew)); exact HO_3.out))) (below_size (by repeat (first | (with_reducible first | exact HB.out | apply below_alloc | apply pw_below_drewN | apply below_drew1) | exact HB.out)))); have n2_ := Aside0.mk (below_step (by repeat (first | (with_reducible first | exact HB.out | apply below_alloc | apply pw_below_drewN | apply below_drew1) | exact HB.out)) hb); clear HO_3; clear HB; have HO_3 := n0_; have HO443 := n1_; have HB := n2_; clear n0_ n1_ n2_; clear hb ho17))
                    go_loopg [6] k2 (fun kq v6 w' => ∃ (x3_3 : List Int) (x6_3 : List Int), Aside0 (spec_l02Parts.l2 kq l0 x3_3 x5_2 x6_3 = some r) ∧ Aside0 (kq ≤ k2) ∧ Aside0 (Kd.R (Kd.int .i64) 2 w' w.heap.size (fun k_ => some k_ ≠ (v6 : Value).ownBlock) (.slice (some ⟨go12, 0, none⟩) x3_2.length co13) x3_3) ∧ Aside0 (Kd.Q (Kd.int .i64) 2 w' w.heap.size (fun k_ => some k_ ≠ ((.slice (some ⟨go12, 0, none⟩) x3_2.length co13) : Value).ownBlock) v6 x6_3) ∧ Aside0 (Below w.heap.size w w'))
                    case atStart => exact ⟨(y440), (y441), H', ⟨Nat.le_refl _⟩, ⟨by (with_reducible repeat (first | apply Kd.R_alloc | apply Kd.R_drewN | apply Kd.R_drew)); exact Kd.R_mono HO_3.out (fun _ hk => hk.2)⟩, ⟨Kd.Q_of_R (by (with_reducible repeat (first | apply Kd.R_alloc | apply Kd.R_drewN | apply Kd.R_drew)); exact Kd.R_mono HO443.out (fun _ hk => hk.2))⟩, ⟨by repeat (first | (with_reducible first | exact HB.out | apply below_alloc | apply pw_below_drewN | apply below_drew1) | exact HB.out)⟩⟩
                    case round =>
                      clear H'
                      try clear c1
                      try clear p1
                      try clear q1
                      try clear hx1
                      try clear hf1
                      try clear p2
                      try clear c4
                      try clear c4b0
                      try clear p4
                      try clear q4
                      try clear hx4
                      try clear c5
                      try clear p6
                      try clear c7
                      try clear c7b0
                      try clear c8
                      try clear c8b0
                      try clear c9
                      try clear c9b0
                      try clear c10
                      try clear c10b0
                      try clear c11
                      try clear p12
                      try clear q12
                      try clear hx12
                      try clear hf12
                      try clear hx12_0
                      try clear hx439_0
                      try clear p12
                      try clear p2
                      try clear p439
                      try clear p6
                      try clear q12
                      try clear q439
                      obtain ⟨x3_3, x6_3, HA, HK3, HO_3, HO_6, HB⟩ := hrel
                      have hl3_3 := (Kd.R_reads' HO_3.out).1
                      rw [hl3_3] at HO_3
                      (try simp only [hl3_3])
                      (try simp only [hl3_3] at HO_6)
                      cases gk with
                      | zero => exact absurd HA.out (by simp [spec_l02Parts.l2])
                      | succ k3 =>
                        have H := HA.out
                        clear HA
                        simp only [spec_l02Parts.l2] at H
                        by_cases c18 : (x6_3.length : Int) > 0
                        · rw [if_pos c18] at H
                          have c18b0 : decide (0 < (x6_3.length : Int)) = true := decide_eq_true c18
                          have c18b1 : decide (0 < x6_3.length) = true := decide_eq_true (by omega)
                          clear c18
                          by_cases c19 : 0 < (x6_3.length : Int)
                          · rw [if_pos c19] at H
                            have c19b0 : decide (0 < (x6_3.length : Int)) = true := decide_eq_true c19
                            have c19b1 : decide (0 < x6_3.length) = true := decide_eq_true (by omega)
                            clear c19
                            by_cases c20 : 0 ≤ (rd x6_3 0)
                            · rw [if_pos c20] at H
                              have c20b0 : decide (0 ≤ (rd x6_3 0)) = true := decide_eq_true c20
                              clear c20
                              by_cases c21 : (rd x6_3 0) < (l0.length : Int)
                              · rw [if_pos c21] at H
                                have c21b0 : decide ((rd x6_3 0) < (l0.length : Int)) = true := decide_eq_true c21
                                clear c21
                                replace H := Option.bind_eq_some_iff.mp H
                                obtain ⟨t446, A220, H⟩ := H
                                replace H : (if 1 ≤ (x6_3.length : Int) then (spec_l02Parts.l3 k3 l0 x3_3 x5_2 (x6_3.drop (1 : Int).toNat) t446 0) else (none)) = some r := H
                                have A22 := Aside0.mk A220
                                clear A220
                                by_cases c23 : 1 ≤ (x6_3.length : Int)
                                · rw [if_pos c23] at H
                                  have c23b0 := eq_true c23
                                  have c23b1 : decide (1 ≤ (x6_3.length : Int)) = true := decide_eq_true c23
                                  clear c23
                                  obtain ⟨y449, hy449⟩ : ∃ y_ : List Int, y_ = (x6_3.drop (1 : Int).toNat) := ⟨_, rfl⟩
                                  replace H : (spec_l02Parts.l3 k3 l0 x3_3 x5_2 y449 t446 0) = some r := by first | (rw [hy449]; with_reducible exact H) | (have H2_ := (Option.bind_some _ _).symm.trans H; rw [hy449]; with_reducible exact H2_) | (have H2_ := (Option.bind_some _ _).symm.trans H; with_reducible exact H2_) | with_reducible exact H | (rw [hy449]; exact H) | exact H
                                  have Ny449 := Aside0.mk hy449
                                  clear hy449
                                  have H' := Aside0.mk H
                                  clear H
                                  obtain ⟨Ao24, co24, eo24, _⟩ := Kd.Q_slice HO_6.out
                                  subst eo24
                                  have p444 : 0 ≤ (0 : Int) := (by omega)
                                  have q444 : 0 < (x6_3.length : Int) := of_decide_eq_true (by first | (with_reducible assumption) | assumption)
                                  obtain ⟨ad444, e444, hx444_0⟩ := Kd.at_int (Kd.Q_reads' HO_6.out).2.2 0 p444 q444
                                  cases e444
                                  have qi444 : (0 < x6_3.length) = True := eq_true (by omega)
                                  (try rw [show ((0 : Int)).toNat = 0 from rfl] at hx444_0)
                                  (try rw [Addr.add_zero'] at hx444_0)
                                  replace p444 := eq_true p444
                                  replace q444 := eq_true q444
                                  have p445 : 0 ≤ ((rd x6_3 0) : Int) := of_decide_eq_true (by first | (with_reducible assumption) | assumption)
                                  have q445 : (rd x6_3 0) < (l0.length : Int) := of_decide_eq_true (by first | (with_reducible assumption) | assumption)
                                  obtain ⟨ad445, e445, hx445_0, hx445_1⟩ := at_T67 HR0.out (rd x6_3 0) p445 q445
                                  cases e445
                                  replace hx445_0 := (HB.out.cell (World.block_lt_of_cell? w _ hx445_0)).trans hx445_0
                                  replace hx445_1 := (HB.out.cell (World.block_lt_of_cell? w _ hx445_1)).trans hx445_1
                                  replace p445 := eq_true p445
                                  replace q445 := eq_true q445
                                  go_wp2_with (first | ((with_reducible refine gate_callee (f := 62) rfl ?_); refine goesL_ (some 46) rfl rfl Try.func62 (by kernel_rfl) rfl #[.agg #[.int .i64 ((rd_T67 l0 (rd x6_3 0)).f0), .int .i64 ((rd_T67 l0 (rd x6_3 0)).f1)]] rfl (by (try simp only [List.map_toArray, List.map_cons, List.map_nil]); first | done | rfl | (simp only [List.length_drop, List.length_take]; rfl)) ?_; (with_reducible refine (spec_l02Around.calls ((rd_T67 l0 (rd x6_3 0)).f0) ((rd_T67 l0 (rd x6_3 0)).f1) t446 _ A22.out).mono ?_); rintro e w25 ⟨v447, rfl, ho0, hb⟩; refine ⟨_, rfl, ?_⟩; have n0_ := Aside0.mk (Kd.R_below (by (with_reducible repeat (first | apply Kd.R_alloc | apply Kd.R_drewN | apply Kd.R_drew)); exact HO_3.out) hb); have n1_ := Aside0.mk (Kd.Q_below (by (with_reducible repeat (first | apply Kd.Q_alloc | apply Kd.Q_drewN | apply Kd.Q_drew)); exact HO_6.out) hb); have n2_ := Aside0.mk (Kd.R_lower ho0 (below_size (by repeat (first | (with_reducible first | exact HB.out | apply below_alloc | apply pw_below_drewN | apply below_drew1) | exact HB.out)))); have n3_ := Aside0.mk (below_step (by repeat (first | (with_reducible first | exact HB.out | apply below_alloc | apply pw_below_drewN | apply below_drew1) | exact HB.out)) hb); clear HO_3; clear HO_6; clear HB; have HO_3 := n0_; have HO_6 := n1_; have HO448 := n2_; have HB := n3_; clear n0_ n1_ n2_ n3_; (try clear hb); (try clear hb2); (try clear hk); (try clear hi); (try clear ho0); have q26 : (1 : Int) ≤ ((x6_3.length : Int) : Int) := of_decide_eq_true (by first | (with_reducible assumption) | assumption); obtain ⟨i026, hi026, _, hsz26, _⟩ := info_parts info2; have hcut26 := cut_from (P := Try.prog) 24 2 .i64 Try.underlying24 hi026 1 hsz26 (some ad444) x6_3.length co24 1 (by omega) q26; have hr26 := Kd.Q_drop (k := (1 : Int).toNat) HO_6.out (by omega); obtain ⟨A26, hA26⟩ : ∃ A1, A1 = (if co24 = (1 : Int).toNat then (some ad444) else ((some ad444) : Option Addr).map (·.add ((1 : Int).toNat * 1))) := ⟨_, rfl⟩; obtain ⟨c26, hc26⟩ : ∃ c1, c1 = co24 - (1 : Int).toNat := ⟨_, rfl⟩; have hy26 : y449.length = x6_3.length - (1 : Int).toNat := (by rw [Ny449.out, List.length_drop]); rw [← Ny449.out] at hr26; rw [← hy26, ← hA26, ← hc26] at hcut26; replace hr26 : Kd.Q (Kd.int .i64) 2 w25 w.heap.size (fun k_ => some k_ ≠ (.slice (some ⟨go12, 0, none⟩) x3_3.length co13 : Value).ownBlock) (.slice A26 y449.length c26) y449 := (by rw [hA26, hc26, hy26]; exact hr26); have HE26 : Aside0 ((Value.slice A26 y449.length c26).ownBlock = (.slice (some ad444) x6_3.length co24 : Value).ownBlock) := ⟨by rw [hA26]; split <;> (cases ((some ad444) : Option Addr) <;> rfl)⟩; clear hy26 hi026 hsz26 HO_6 hA26 hc26; have HO451 := Aside0.mk hr26; clear hr26; replace q26 := eq_true q26; have n_ := Aside0.mk (Kd.R_mono (ok' := fun k_ => some k_ ≠ (.slice A26 y449.length c26 : Value).ownBlock) HO_3.out (fun k_ hk => (by rw [HE26.out]; exact hk))); clear HO_3; have HO_3 := n_; clear n_))
                                  go_loopg [6, 8] k3 (fun kq v6 v8 w' => ∃ (x3_4 : List Int) (x6_4 : List Int) (x8_4 : Int), v8 = .int .i64 x8_4 ∧ Aside0 (spec_l02Parts.l3 kq l0 x3_4 x5_2 x6_4 t446 x8_4 = some r) ∧ Aside0 (kq ≤ k3) ∧ Aside0 (Kd.R (Kd.int .i64) 2 w' w.heap.size (fun k_ => some k_ ≠ (v6 : Value).ownBlock) (.slice (some ⟨go12, 0, none⟩) x3_3.length co13) x3_4) ∧ Aside0 (Kd.Q (Kd.int .i64) 2 w' w.heap.size (fun k_ => some k_ ≠ ((.slice (some ⟨go12, 0, none⟩) x3_3.length co13) : Value).ownBlock) v6 x6_4) ∧ Aside0 (Kd.R k67 67 w' w.heap.size (fun _ => True) v447 t446) ∧ Aside0 (Below w.heap.size w w'))
                                  case atStart => exact ⟨(x3_3), (y449), (0), (by first | rfl | (simp; done) | (simp [*]; done)), H', ⟨Nat.le_refl _⟩, ⟨by (try simp only [hl3_3]); (with_reducible repeat (first | apply Kd.R_alloc | apply Kd.R_drewN | apply Kd.R_drew)); exact HO_3.out⟩, ⟨by (try simp only [hl3_3]); (with_reducible repeat (first | apply Kd.Q_alloc | apply Kd.Q_drewN | apply Kd.Q_drew)); exact HO451.out⟩, ⟨by (try simp only [hl3_3]); (with_reducible repeat (first | apply Kd.R_alloc | apply Kd.R_drewN | apply Kd.R_drew)); exact HO448.out⟩, ⟨by repeat (first | (with_reducible first | exact HB.out | apply below_alloc | apply pw_below_drewN | apply below_drew1) | exact HB.out)⟩⟩
                                  case round =>
                                    clear H'
                                    try clear c1
                                    try clear p1
                                    try clear q1
                                    try clear hx1
                                    try clear hf1
                                    try clear c2
                                    try clear p2
                                    try clear q2
                                    try clear c4
                                    try clear c4b0
                                    try clear p4
                                    try clear q4
                                    try clear hx4
                                    try clear qi4
                                    try clear c5
                                    try clear c6
                                    try clear p6
                                    try clear c7
                                    try clear c7b0
                                    try clear c8
                                    try clear c8b0
                                    try clear c9
                                    try clear c9b0
                                    try clear c10
                                    try clear c10b0
                                    try clear c11
                                    try clear p12
                                    try clear q12
                                    try clear hx12
                                    try clear hf12
                                    try clear c18
                                    try clear c18b0
                                    try clear c18b1
                                    try clear c19
                                    try clear c19b0
                                    try clear c19b1
                                    try clear c20
                                    try clear c20b0
                                    try clear c21
                                    try clear c21b0
                                    try clear c23
                                    try clear c23b0
                                    try clear c23b1
                                    try clear c26
                                    try clear q26
                                    try clear hx12_0
                                    try clear hx439_0
                                    try clear hx444_0
                                    try clear hx445_0
                                    try clear hx445_1
                                    try clear p1
                                    try clear p12
                                    try clear p2
                                    try clear p4
                                    try clear p439
                                    try clear p444
                                    try clear p445
                                    try clear p6
                                    try clear q1
                                    try clear q12
                                    try clear q26
                                    try clear q4
                                    try clear q439
                                    try clear q444
                                    try clear q445
                                    obtain ⟨x3_4, x6_4, x8_4, rfl, HA, HK4, HO_3, HO_6, HO_7, HB⟩ := hrel
                                    have hl3_4 := (Kd.R_reads' HO_3.out).1
                                    rw [hl3_4] at HO_3
                                    (try simp only [hl3_4])
                                    (try simp only [hl3_4] at HO_6)
                                    (try simp only [hl3_4] at HO_7)
                                    cases gk with
                                    | zero => exact absurd HA.out (by simp [spec_l02Parts.l3])
                                    | succ k4 =>
                                      have H := HA.out
                                      clear HA
                                      simp only [spec_l02Parts.l3] at H
                                      by_cases c27 : x8_4 < 4
                                      · rw [if_pos c27] at H
                                        have c27b0 : decide (x8_4 < 4) = true := decide_eq_true c27
                                        clear c27
                                        by_cases c28 : 0 ≤ x8_4
                                        · rw [if_pos c28] at H
                                          have c28b0 : decide (0 ≤ x8_4) = true := decide_eq_true c28
                                          clear c28
                                          by_cases c29 : x8_4 < (t446.length : Int)
                                          · rw [if_pos c29] at H
                                            have c29b0 : decide (x8_4 < (t446.length : Int)) = true := decide_eq_true c29
                                            clear c29
                                            replace H := Option.bind_eq_some_iff.mp H
                                            obtain ⟨t453, A300, H⟩ := H
                                            replace H : (if t453 ≥ 0 then (if 0 ≤ t453 then (if t453 < (x3_4.length : Int) then (if (rd x3_4 t453) < 0 then (if x6_4.length < 17592186044416 then (spec_l02Parts.l3 k4 l0 (x3_4.set (t453 : Int).toNat x5_2) x5_2 (x6_4 ++ [t453]) t446 (wrap64 (x8_4 + 1))) else (none)) else (spec_l02Parts.l3 k4 l0 x3_4 x5_2 x6_4 t446 (wrap64 (x8_4 + 1)))) else (none)) else (none)) else (spec_l02Parts.l3 k4 l0 x3_4 x5_2 x6_4 t446 (wrap64 (x8_4 + 1)))) = some r := H
                                            have A30 := Aside0.mk A300
                                            clear A300
                                            by_cases c31 : t453 ≥ 0
                                            · rw [if_pos c31] at H
                                              have c31b0 : decide (0 ≤ t453) = true := decide_eq_true c31
                                              clear c31
                                              by_cases c32 : 0 ≤ t453
                                              · rw [if_pos c32] at H
                                                have c32b0 : decide (0 ≤ t453) = true := decide_eq_true c32
                                                clear c32
                                                by_cases c33 : t453 < (x3_4.length : Int)
                                                · rw [if_pos c33] at H
                                                  have c33b0 : decide (t453 < (x3_4.length : Int)) = true := decide_eq_true c33
                                                  clear c33
                                                  by_cases c34 : (rd x3_4 t453) < 0
                                                  · rw [if_pos c34] at H
                                                    have c34b0 : decide ((rd x3_4 t453) < 0) = true := decide_eq_true c34
                                                    clear c34
                                                    obtain ⟨y455, hy455⟩ : ∃ y_ : List Int, y_ = (x3_4.set (t453 : Int).toNat x5_2) := ⟨_, rfl⟩
                                                    replace H : (if x6_4.length < 17592186044416 then (spec_l02Parts.l3 k4 l0 y455 x5_2 (x6_4 ++ [t453]) t446 (wrap64 (x8_4 + 1))) else (none)) = some r := by first | (rw [hy455]; with_reducible exact H) | (have H2_ := (Option.bind_some _ _).symm.trans H; rw [hy455]; with_reducible exact H2_) | (have H2_ := (Option.bind_some _ _).symm.trans H; with_reducible exact H2_) | with_reducible exact H | (rw [hy455]; exact H) | exact H
                                                    have Ny455 := Aside0.mk hy455
                                                    clear hy455
                                                    by_cases c36 : x6_4.length < 17592186044416
                                                    · rw [if_pos c36] at H
                                                      have LMc36 := Aside0.mk c36
                                                      clear c36
                                                      obtain ⟨y456, hy456⟩ : ∃ y_ : List Int, y_ = (x6_4 ++ [t453]) := ⟨_, rfl⟩
                                                      replace H : (spec_l02Parts.l3 k4 l0 y455 x5_2 y456 t446 (wrap64 (x8_4 + 1))) = some r := by first | (rw [hy456]; with_reducible exact H) | (have H2_ := (Option.bind_some _ _).symm.trans H; rw [hy456]; with_reducible exact H2_) | (have H2_ := (Option.bind_some _ _).symm.trans H; with_reducible exact H2_) | with_reducible exact H | (rw [hy456]; exact H) | exact H
                                                      have Ny456 := Aside0.mk hy456
                                                      clear hy456
                                                      have H' := Aside0.mk H
                                                      clear H
                                                      obtain ⟨Ao37, co37, eo37⟩ := Kd.R_slice HO_7.out
                                                      subst eo37
                                                      have p452 : 0 ≤ (x8_4 : Int) := of_decide_eq_true (by first | (with_reducible assumption) | assumption)
                                                      have q452 : x8_4 < (t446.length : Int) := of_decide_eq_true (by first | (with_reducible assumption) | assumption)
                                                      obtain ⟨ad452, e452, hx452_0, hx452_1⟩ := at_T67 (Kd.R_reads' HO_7.out).2.2 x8_4 p452 q452
                                                      cases e452
                                                      replace p452 := eq_true p452
                                                      replace q452 := eq_true q452
                                                      go_wp2_with (first | ((with_reducible refine gate_callee (f := 63) rfl ?_); refine goesL_ (some 58) rfl rfl Try.func63 (by kernel_rfl) rfl #[.slice (some ad445) l0.length c0, .agg #[.int .i64 ((rd_T67 t446 x8_4).f0), .int .i64 ((rd_T67 t446 x8_4).f1)]] rfl (by (try simp only [List.map_toArray, List.map_cons, List.map_nil]); first | done | rfl | (simp only [List.length_drop, List.length_take]; rfl)) ?_; (with_reducible refine (spec_l02Index.calls k4 _ _ l0 ((rd_T67 t446 x8_4).f0) ((rd_T67 t446 x8_4).f1) t453 _ ?side1 ?side2 A30.out).mono ?_); (case side1 => repeat (first | exact (Kd.C_below HR0.out HB.out) | (with_reducible refine Kd.C_alloc ?_ _) | (with_reducible refine Kd.C_drewN ?_ _) | (with_reducible refine Kd.C_drew ?_))); (case side2 => exact HC0.out); rintro e w38 ⟨rfl, hb⟩; refine ⟨_, rfl, ?_⟩; have n0_ := Aside0.mk (Kd.R_below (by (with_reducible repeat (first | apply Kd.R_alloc | apply Kd.R_drewN | apply Kd.R_drew)); exact HO_3.out) hb); have n1_ := Aside0.mk (Kd.Q_below (by (with_reducible repeat (first | apply Kd.Q_alloc | apply Kd.Q_drewN | apply Kd.Q_drew)); exact HO_6.out) hb); have n2_ := Aside0.mk (Kd.R_below (by (with_reducible repeat (first | apply Kd.R_alloc | apply Kd.R_drewN | apply Kd.R_drew)); exact HO_7.out) hb); have n3_ := Aside0.mk (below_step (by repeat (first | (with_reducible first | exact HB.out | apply below_alloc | apply pw_below_drewN | apply below_drew1) | exact HB.out)) hb); clear HO_3; clear HO_6; clear HO_7; clear HB; have HO_3 := n0_; have HO_6 := n1_; have HO_7 := n2_; have HB := n3_; clear n0_ n1_ n2_ n3_; (try clear hb); (try clear hb2); (try clear hk); (try clear hi); have p454 : 0 ≤ (t453 : Int) := of_decide_eq_true (by first | (with_reducible assumption) | assumption); have q454 : t453 < (x3_4.length : Int) := of_decide_eq_true (by first | (with_reducible assumption) | assumption); obtain ⟨ad454, e454, hx454_0⟩ := Kd.at_int (Kd.R_reads' HO_3.out).2.2 t453 p454 q454; obtain rfl : (⟨go12, 0, none⟩ : Addr) = ad454 := (by injection e454); (first | simp only [add_plain] at hx454_0 | simp only [add_at] at hx454_0 | simp only [Addr.add, Nat.zero_add] at hx454_0 | skip); replace p454 := eq_true p454; replace q454 := eq_true q454; have p35 : 0 ≤ (t453 : Int) := of_decide_eq_true (by first | (with_reducible assumption) | assumption); have q35 : (t453 : Int) < ((x3_4.length : Int) : Int) := of_decide_eq_true (by first | (with_reducible assumption) | assumption); obtain ⟨hx35_0, hf35_0⟩ := Kd.R_celln 0 HO_3.out (t453 : Int) p35 q35; replace p35 := eq_true p35; replace q35 := eq_true q35; obtain ⟨hy39_, hz39_⟩ := Kd.R_celln 0 HO_3.out (t453 : Int) (of_decide_eq_true (by first | (with_reducible assumption) | assumption)) (of_decide_eq_true (by first | (with_reducible assumption) | assumption)); have HP39 := Kd.R_putg HO_3.out (t453 : Int) x5_2) | ((with_reducible refine gate_store (t := 2) (p := 71) rfl ?_); refine store_event (t := 2) (p := 71) (v := ?vo_w40) (w1 := (w38.setCell ⟨go12, (t453 : Int).toNat, none⟩ (.int .i64 x5_2))) ?hg ?ho ?hn ?hr ?_; (case ho => rfl); (case hg => rfl); (case hn => rfl); (case hr => first | (go_simp; done) | (go_simp; rfl)); intro w40 hw; have hg : w38.grownBy w40 (some go12) := (by rw [hw]; exact HP39.2); have hp_ : Kd.R (Kd.int .i64) 2 w40 w.heap.size (fun k_ => some k_ ≠ (u6 : Value).ownBlock) (.slice (some ⟨go12, 0, none⟩) x3_4.length co13) y455 := (by rw [hw, Ny455.out]; exact HP39.1); clear HP39; have n0_ := Aside0.mk (hp_); have n1_ := Aside0.mk (Kd.Q_after (v := (.slice (some ⟨go12, 0, none⟩) x3_4.length co13)) (v1 := (.slice (some ⟨go12, 0, none⟩) x3_4.length co13)) (ok := (fun _ => True)) (by (with_reducible repeat (first | apply Kd.Q_alloc | apply Kd.Q_drewN | apply Kd.Q_drew)); exact Kd.Q_mono HO_6.out (fun _ hk => ⟨trivial, hk⟩)) hg (.inl rfl)); have n2_ := Aside0.mk (Kd.R_over' (v := (.slice (some ⟨go12, 0, none⟩) x3_4.length co13)) (by (with_reducible repeat (first | apply Kd.R_alloc | apply Kd.R_drewN | apply Kd.R_drew)); exact HO_7.out) (Kd.R_typed HO_3.out) (by decide) hg); have n3_ := Aside0.mk ((by rw [hw]; exact below_set (HB.out) GB12.out : Below w.heap.size w w40)); clear HO_3; clear HO_6; clear HO_7; clear HB; have HO_3 := n0_; have HO_6 := n1_; have HO_7 := n2_; have HB := n3_; clear n0_ n1_ n2_ n3_; clear hg hw hp_) | ((with_reducible refine gate_builtin (b := .append) (xs := #[.tmp 72, .tmp 74]) rfl ?_); at_builtin; refine Kd.Q_append (Kd.int .i64) (w0 := w) w.heap.size rfl (.tmp 72) (.tmp 74) 24 2 (.int .i64 0) 8 rfl Try.underlying24 info2 rfl (by decide) (by omega) u6 x6_4 t453 [.int .i64 t453] (fun k_ => some k_ ≠ (.slice (some ⟨go12, 0, none⟩) x3_4.length co13 : Value).ownBlock) (fun _ => False) rfl rfl ?aP (fun _ hk => hk.elim) ?aF ?aO ?aB ?aS ?aL ?_; (case aP => exact rfl); (case aB => exact (by repeat (first | (with_reducible first | exact HB.out | apply below_alloc | apply pw_below_drewN | apply below_drew1) | exact HB.out))); (case aF => exact (fun k_ hk => Kd.fresh' (Kd.R_lt (by (with_reducible repeat (first | apply Kd.R_alloc | apply Kd.R_drewN | apply Kd.R_drew)); exact HO_3.out)) k_ hk)); (case aO => exact (by (with_reducible repeat (first | apply Kd.Q_alloc | apply Kd.Q_drewN | apply Kd.Q_drew)); exact Kd.Q_mono HO_6.out (fun _ hk => hk.2))); (case aS => exact (below_size (by repeat (first | (with_reducible first | exact HB.out | apply below_alloc | apply pw_below_drewN | apply below_drew1) | exact HB.out)))); (case aL => have := LMc36.out; omega); intro v457 w41 ho hb hg hat; rw [← Ny456.out] at ho; have n0_ := Aside0.mk (Kd.R_after (ok := (fun _ => True)) (by (with_reducible repeat (first | apply Kd.R_alloc | apply Kd.R_drewN | apply Kd.R_drew)); exact Kd.R_mono HO_3.out (fun _ hk => ⟨trivial, hk⟩)) hg hat); have n1_ := Aside0.mk (Kd.R_over' (by (with_reducible repeat (first | apply Kd.R_alloc | apply Kd.R_drewN | apply Kd.R_drew)); exact HO_7.out) (Kd.Q_typed (by (with_reducible repeat (first | apply Kd.Q_alloc | apply Kd.Q_drewN | apply Kd.Q_drew)); exact HO_6.out)) (by decide) hg); have n2_ := Aside0.mk (hb); have n3_ := Aside0.mk (ho); clear HO_3; clear HO_7; clear HB; clear HO_6; have HO_3 := n0_; have HO_7 := n1_; have HB := n2_; have HO458 := n3_; clear n0_ n1_ n2_ n3_; clear ho hb hg hat))
                                                      (try simp only [← hl3_4])
                                                      go_roundg k4
                                                      case measure => have := HK1.out; have := HK2.out; have := HK3.out; have := HK4.out; omega
                                                      case rel => exact ⟨(y455), (y456), (wrap64 (x8_4 + 1)), (by first | rfl | (simp; done) | (simp [*]; done)), H', ⟨by have := HK1.out; have := HK2.out; have := HK3.out; have := HK4.out; omega⟩, ⟨by (try simp only [hl3_3]); (try simp only [hl3_4]); (with_reducible repeat (first | apply Kd.R_alloc | apply Kd.R_drewN | apply Kd.R_drew)); exact Kd.R_mono HO_3.out (fun _ hk => hk.2)⟩, ⟨by (try simp only [hl3_3]); (try simp only [hl3_4]); (with_reducible repeat (first | apply Kd.Q_alloc | apply Kd.Q_drewN | apply Kd.Q_drew)); exact HO458.out⟩, ⟨by (try simp only [hl3_3]); (try simp only [hl3_4]); (with_reducible repeat (first | apply Kd.R_alloc | apply Kd.R_drewN | apply Kd.R_drew)); exact HO_7.out⟩, ⟨by repeat (first | (with_reducible first | exact HB.out | apply below_alloc | apply pw_below_drewN | apply below_drew1) | exact HB.out)⟩⟩
                                                    · rw [if_neg c36] at H
                                                      exact absurd H (by simp)
                                                  · rw [if_neg c34] at H
                                                    have c34b0 : decide ((rd x3_4 t453) < 0) = false := decide_eq_false c34
                                                    clear c34
                                                    have H' := Aside0.mk H
                                                    clear H
                                                    obtain ⟨Ao42, co42, eo42⟩ := Kd.R_slice HO_7.out
                                                    subst eo42
                                                    have p452 : 0 ≤ (x8_4 : Int) := of_decide_eq_true (by first | (with_reducible assumption) | assumption)
                                                    have q452 : x8_4 < (t446.length : Int) := of_decide_eq_true (by first | (with_reducible assumption) | assumption)
                                                    obtain ⟨ad452, e452, hx452_0, hx452_1⟩ := at_T67 (Kd.R_reads' HO_7.out).2.2 x8_4 p452 q452
                                                    cases e452
                                                    replace p452 := eq_true p452
                                                    replace q452 := eq_true q452
                                                    go_wp2_with (first | ((with_reducible refine gate_callee (f := 63) rfl ?_); refine goesL_ (some 58) rfl rfl Try.func63 (by kernel_rfl) rfl #[.slice (some ad445) l0.length c0, .agg #[.int .i64 ((rd_T67 t446 x8_4).f0), .int .i64 ((rd_T67 t446 x8_4).f1)]] rfl (by (try simp only [List.map_toArray, List.map_cons, List.map_nil]); first | done | rfl | (simp only [List.length_drop, List.length_take]; rfl)) ?_; (with_reducible refine (spec_l02Index.calls k4 _ _ l0 ((rd_T67 t446 x8_4).f0) ((rd_T67 t446 x8_4).f1) t453 _ ?side1 ?side2 A30.out).mono ?_); (case side1 => repeat (first | exact (Kd.C_below HR0.out HB.out) | (with_reducible refine Kd.C_alloc ?_ _) | (with_reducible refine Kd.C_drewN ?_ _) | (with_reducible refine Kd.C_drew ?_))); (case side2 => exact HC0.out); rintro e w43 ⟨rfl, hb⟩; refine ⟨_, rfl, ?_⟩; have n0_ := Aside0.mk (Kd.R_below (by (with_reducible repeat (first | apply Kd.R_alloc | apply Kd.R_drewN | apply Kd.R_drew)); exact HO_3.out) hb); have n1_ := Aside0.mk (Kd.Q_below (by (with_reducible repeat (first | apply Kd.Q_alloc | apply Kd.Q_drewN | apply Kd.Q_drew)); exact HO_6.out) hb); have n2_ := Aside0.mk (Kd.R_below (by (with_reducible repeat (first | apply Kd.R_alloc | apply Kd.R_drewN | apply Kd.R_drew)); exact HO_7.out) hb); have n3_ := Aside0.mk (below_step (by repeat (first | (with_reducible first | exact HB.out | apply below_alloc | apply pw_below_drewN | apply below_drew1) | exact HB.out)) hb); clear HO_3; clear HO_6; clear HO_7; clear HB; have HO_3 := n0_; have HO_6 := n1_; have HO_7 := n2_; have HB := n3_; clear n0_ n1_ n2_ n3_; (try clear hb); (try clear hb2); (try clear hk); (try clear hi); have p454 : 0 ≤ (t453 : Int) := of_decide_eq_true (by first | (with_reducible assumption) | assumption); have q454 : t453 < (x3_4.length : Int) := of_decide_eq_true (by first | (with_reducible assumption) | assumption); obtain ⟨ad454, e454, hx454_0⟩ := Kd.at_int (Kd.R_reads' HO_3.out).2.2 t453 p454 q454; obtain rfl : (⟨go12, 0, none⟩ : Addr) = ad454 := (by injection e454); (first | simp only [add_plain] at hx454_0 | simp only [add_at] at hx454_0 | simp only [Addr.add, Nat.zero_add] at hx454_0 | skip); replace p454 := eq_true p454; replace q454 := eq_true q454))
                                                    (try simp only [← hl3_4])
                                                    go_roundg k4
                                                    case measure => have := HK1.out; have := HK2.out; have := HK3.out; have := HK4.out; omega
                                                    case rel => exact ⟨(x3_4), (x6_4), (wrap64 (x8_4 + 1)), (by first | rfl | (simp; done) | (simp [*]; done)), H', ⟨by have := HK1.out; have := HK2.out; have := HK3.out; have := HK4.out; omega⟩, ⟨by (try simp only [hl3_3]); (try simp only [hl3_4]); (with_reducible repeat (first | apply Kd.R_alloc | apply Kd.R_drewN | apply Kd.R_drew)); exact HO_3.out⟩, ⟨by (try simp only [hl3_3]); (try simp only [hl3_4]); (with_reducible repeat (first | apply Kd.Q_alloc | apply Kd.Q_drewN | apply Kd.Q_drew)); exact HO_6.out⟩, ⟨by (try simp only [hl3_3]); (try simp only [hl3_4]); (with_reducible repeat (first | apply Kd.R_alloc | apply Kd.R_drewN | apply Kd.R_drew)); exact HO_7.out⟩, ⟨by repeat (first | (with_reducible first | exact HB.out | apply below_alloc | apply pw_below_drewN | apply below_drew1) | exact HB.out)⟩⟩
                                                · rw [if_neg c33] at H
                                                  exact absurd H (by simp)
                                              · rw [if_neg c32] at H
                                                exact absurd H (by simp)
                                            · rw [if_neg c31] at H
                                              have c31b0 : decide (0 ≤ t453) = false := decide_eq_false c31
                                              clear c31
                                              have H' := Aside0.mk H
                                              clear H
                                              obtain ⟨Ao44, co44, eo44⟩ := Kd.R_slice HO_7.out
                                              subst eo44
                                              have p452 : 0 ≤ (x8_4 : Int) := of_decide_eq_true (by first | (with_reducible assumption) | assumption)
                                              have q452 : x8_4 < (t446.length : Int) := of_decide_eq_true (by first | (with_reducible assumption) | assumption)
                                              obtain ⟨ad452, e452, hx452_0, hx452_1⟩ := at_T67 (Kd.R_reads' HO_7.out).2.2 x8_4 p452 q452
                                              cases e452
                                              replace p452 := eq_true p452
                                              replace q452 := eq_true q452
                                              go_wp2_with (first | ((with_reducible refine gate_callee (f := 63) rfl ?_); refine goesL_ (some 58) rfl rfl Try.func63 (by kernel_rfl) rfl #[.slice (some ad445) l0.length c0, .agg #[.int .i64 ((rd_T67 t446 x8_4).f0), .int .i64 ((rd_T67 t446 x8_4).f1)]] rfl (by (try simp only [List.map_toArray, List.map_cons, List.map_nil]); first | done | rfl | (simp only [List.length_drop, List.length_take]; rfl)) ?_; (with_reducible refine (spec_l02Index.calls k4 _ _ l0 ((rd_T67 t446 x8_4).f0) ((rd_T67 t446 x8_4).f1) t453 _ ?side1 ?side2 A30.out).mono ?_); (case side1 => repeat (first | exact (Kd.C_below HR0.out HB.out) | (with_reducible refine Kd.C_alloc ?_ _) | (with_reducible refine Kd.C_drewN ?_ _) | (with_reducible refine Kd.C_drew ?_))); (case side2 => exact HC0.out); rintro e w45 ⟨rfl, hb⟩; refine ⟨_, rfl, ?_⟩; have n0_ := Aside0.mk (Kd.R_below (by (with_reducible repeat (first | apply Kd.R_alloc | apply Kd.R_drewN | apply Kd.R_drew)); exact HO_3.out) hb); have n1_ := Aside0.mk (Kd.Q_below (by (with_reducible repeat (first | apply Kd.Q_alloc | apply Kd.Q_drewN | apply Kd.Q_drew)); exact HO_6.out) hb); have n2_ := Aside0.mk (Kd.R_below (by (with_reducible repeat (first | apply Kd.R_alloc | apply Kd.R_drewN | apply Kd.R_drew)); exact HO_7.out) hb); have n3_ := Aside0.mk (below_step (by repeat (first | (with_reducible first | exact HB.out | apply below_alloc | apply pw_below_drewN | apply below_drew1) | exact HB.out)) hb); clear HO_3; clear HO_6; clear HO_7; clear HB; have HO_3 := n0_; have HO_6 := n1_; have HO_7 := n2_; have HB := n3_; clear n0_ n1_ n2_ n3_; (try clear hb); (try clear hb2); (try clear hk); (try clear hi)))
                                              (try simp only [← hl3_4])
                                              go_roundg k4
                                              case measure => have := HK1.out; have := HK2.out; have := HK3.out; have := HK4.out; omega
                                              case rel => exact ⟨(x3_4), (x6_4), (wrap64 (x8_4 + 1)), (by first | rfl | (simp; done) | (simp [*]; done)), H', ⟨by have := HK1.out; have := HK2.out; have := HK3.out; have := HK4.out; omega⟩, ⟨by (try simp only [hl3_3]); (try simp only [hl3_4]); (with_reducible repeat (first | apply Kd.R_alloc | apply Kd.R_drewN | apply Kd.R_drew)); exact HO_3.out⟩, ⟨by (try simp only [hl3_3]); (try simp only [hl3_4]); (with_reducible repeat (first | apply Kd.Q_alloc | apply Kd.Q_drewN | apply Kd.Q_drew)); exact HO_6.out⟩, ⟨by (try simp only [hl3_3]); (try simp only [hl3_4]); (with_reducible repeat (first | apply Kd.R_alloc | apply Kd.R_drewN | apply Kd.R_drew)); exact HO_7.out⟩, ⟨by repeat (first | (with_reducible first | exact HB.out | apply below_alloc | apply pw_below_drewN | apply below_drew1) | exact HB.out)⟩⟩
                                          · rw [if_neg c29] at H
                                            exact absurd H (by simp)
                                        · rw [if_neg c28] at H
                                          exact absurd H (by simp)
                                      · rw [if_neg c27] at H
                                        have c27b0 : decide (x8_4 < 4) = false := decide_eq_false c27
                                        clear c27
                                        have H' := Aside0.mk H
                                        clear H
                                        go_wp2
                                        (try simp only [← hl3_3, ← hl3_4])
                                        go_roundg k4
                                        case measure => have := HK1.out; have := HK2.out; have := HK3.out; have := HK4.out; omega
                                        case rel => exact ⟨(x3_4), (x6_4), H', ⟨by have := HK1.out; have := HK2.out; have := HK3.out; have := HK4.out; omega⟩, ⟨by (try simp only [hl3_3]); (try simp only [hl3_4]); (with_reducible repeat (first | apply Kd.R_alloc | apply Kd.R_drewN | apply Kd.R_drew)); exact HO_3.out⟩, ⟨by (try simp only [hl3_3]); (try simp only [hl3_4]); (with_reducible repeat (first | apply Kd.Q_alloc | apply Kd.Q_drewN | apply Kd.Q_drew)); exact HO_6.out⟩, ⟨by repeat (first | (with_reducible first | exact HB.out | apply below_alloc | apply pw_below_drewN | apply below_drew1) | exact HB.out)⟩⟩
                                · rw [if_neg c23] at H
                                  exact absurd H (by simp)
                              · rw [if_neg c21] at H
                                exact absurd H (by simp)
                            · rw [if_neg c20] at H
                              exact absurd H (by simp)
                          · rw [if_neg c19] at H
                            exact absurd H (by simp)
                        · rw [if_neg c18] at H
                          have c18b0 : decide (0 < (x6_3.length : Int)) = false := decide_eq_false c18
                          have c18b1 : decide (0 < x6_3.length) = false := decide_eq_false (by omega)
                          clear c18
                          have H' := Aside0.mk H
                          clear H
                          obtain ⟨Ao46, co46, eo46, _⟩ := Kd.Q_slice HO_6.out
                          subst eo46
                          go_wp2
                          (try simp only [← hl3_3])
                          go_roundg k3
                          case measure => have := HK1.out; have := HK2.out; have := HK3.out; omega
                          case rel => exact ⟨(x3_3), (wrap64 (x5_2 + 1)), (by first | rfl | (simp; done) | (simp [*]; done)), H', ⟨by have := HK1.out; have := HK2.out; have := HK3.out; omega⟩, ⟨by (try simp only [hl3_3]); (with_reducible repeat (first | apply Kd.R_alloc | apply Kd.R_drewN | apply Kd.R_drew)); exact Kd.R_mono HO_3.out (fun _ hk => trivial)⟩, ⟨by repeat (first | (with_reducible first | exact HB.out | apply below_alloc | apply pw_below_drewN | apply below_drew1) | exact HB.out)⟩⟩
                · rw [if_neg c9] at H
                  exact absurd H (by simp)
              · rw [if_neg c8] at H
                exact absurd H (by simp)
            · rw [if_neg c7] at H
              have c7b0 : decide (x5_2 < (l0.length : Int)) = false := decide_eq_false c7
              clear c7
              obtain rfl := Option.some.inj H
              go_wp2
              go_ret
              exact ⟨_, by first | rfl | (simp [errW_none, errW_some] <;> rfl) | (simp [*, errW_none, errW_some] <;> rfl), by (with_reducible repeat (first | apply Kd.R_alloc | apply Kd.R_drewN | apply Kd.R_drew)); exact HO_3.out, by repeat (first | (with_reducible first | exact HB.out | apply below_alloc | apply pw_below_drewN | apply below_drew1) | exact HB.out)⟩

/-! ### impl_partsLook: function 9000 -/
/-- Where a cell stands in a list: the last place. -/
def lastIdx : List S67 → S67 → Nat → Option Nat
  | [], _, _ => none
  | a :: r, c, i => match lastIdx r c (i + 1) with
    | some j => some j
    | none => if a.f0 = c.f0 ∧ a.f1 = c.f1 then some i else none
def wfC (c : S67) : Bool := (Lit.int .i64 c.f0).wf && (Lit.int .i64 c.f1).wf
def impl_partsLook.f (l0 : List (S67)) (a1_0 : Int) (a1_1 : Int) : Option (Int × Bool) :=
  if wfC ⟨a1_0, a1_1⟩ = true then some (match lastIdx l0 ⟨a1_0, a1_1⟩ 0 with | some j => ((j : Int), true) | none => (0, false)) else none
theorem lastIdx_snoc (c d : S67) : ∀ (l : List S67) (i : Nat), lastIdx (l ++ [c]) d i = if c.f0 = d.f0 ∧ c.f1 = d.f1 then some (i + l.length) else lastIdx l d i
  | [], i => by simp [lastIdx]
  | a :: r, i => by
    rw [List.cons_append, lastIdx, lastIdx_snoc c d r (i + 1)]
    by_cases h : c.f0 = d.f0 ∧ c.f1 = d.f1
    · simp only [h, and_self, if_true, List.length_cons]; congr 1; omega
    · simp only [h, if_false]; rw [lastIdx]
theorem lastIdx_lt (d : S67) : ∀ (l : List S67) (i j : Nat), lastIdx l d i = some j → i ≤ j ∧ j < i + l.length
  | [], i, j, h => by simp [lastIdx] at h
  | a :: r, i, j, h => by
    rw [lastIdx] at h
    cases e : lastIdx r d (i + 1) with
    | some q =>
      rw [e] at h
      have := lastIdx_lt d r (i + 1) q e
      simp at h
      rw [List.length_cons]; omega
    | none =>
      rw [e] at h
      simp only at h
      split at h
      · simp at h; rw [List.length_cons]; omega
      · simp at h
theorem laidOutP : laidOutB Try.prog = true := by kernel_rfl
theorem keyedC : Maps.Keyed Try.prog 67 := Maps.Keyed.of_law (deep_law_laid laidOutP (m := 4) (by omega) (of_decide_eq_true (by kernel_rfl)) (by kernel_rfl) (by kernel_rfl))
theorem keyTypeC : Try.prog.keyType 67 = true := by kernel_rfl
theorem cellsOfC : Try.prog.cellsOf 67 = 2 := by kernel_rfl
theorem cellsOfI : Try.prog.cellsOf 2 = 1 := by kernel_rfl
theorem typesSize : ∃ n, Try.prog.types.size = n + 1 := ⟨Try.prog.types.size - 1, by have : (0 < Try.prog.types.size) := of_decide_eq_true (by kernel_rfl); omega⟩
abbrev valC (c : S67) : Value := .agg #[.int .i64 c.f0, .int .i64 c.f1]
theorem keyC (c : S67) (h : wfC c = true) : ∃ kl, keyOf Try.prog 67 (valC c) = some kl := by
  unfold wfC at h
  rw [Bool.and_eq_true] at h
  obtain ⟨n, hn⟩ := typesSize
  unfold keyOf
  rw [Try.underlying67]
  have hf : (valC c).formed Try.prog 67 = true := by
    simp only [Value.formed, Try.underlying67, cellsOfC]; rfl
  simp only [keyTypeC, hf, Bool.and_self, if_true, hn]
  refine ⟨_, Option.map_eq_some_iff.2 ⟨[.int .i64 c.f0, .int .i64 c.f1], ?_, rfl⟩⟩
  simp [Program.keyLits, Try.underlying67, Try.underlying2, cellsOfC, cellsOfI, Value.cells, h.1, h.2]
theorem valC_inj {c d : S67} (h : valC c = valC d) : c.f0 = d.f0 ∧ c.f1 = d.f1 := by
  simpa [valC] using h
/-- The map holds the last place of each cell of the list. -/
def PM (w : World) (b : Nat) (l : List S67) : Prop :=
  ∃ (D : DataW Unit) (n : Nat), w.ownsMap Try.prog 67 (plainElem Try.prog 3) b n D ∧ n ≤ l.length ∧ Maps.IsMap D ∧
    ∀ (c : S67) (kl : Lit), keyOf Try.prog 67 (valC c) = some kl → Maps.has D kl = (lastIdx l c 0).isSome ∧ ∀ j : Nat, lastIdx l c 0 = some j → D.atKey kl (.lit (.int .i64 0)) = .lit (.int .i64 j)
section
variable {w w1 W : World} {b g : Nat} {l : List S67}
theorem pm_kept (h : PM w b l) {row : Option Nat} (hg : w.grownBy w1 row) (hne : some b ≠ row) : PM w1 b l := by
  obtain ⟨D, n, ho, r⟩ := h
  exact ⟨D, n, ho.kept hg hne, r⟩
theorem pm_lt (h : PM w b l) : b < w.heap.size := by
  obtain ⟨D, n, ho, r⟩ := h
  exact ho.lt
theorem pm_step (h : PM w b l) (hb : Below w.heap.size w w1) : PM w1 b l := pm_kept h (grown_of_below hb none) (by simp)
theorem pm_alloc (h : PM w b l) (o : Obj) : PM (w.alloc o) b l := pm_kept h (World.grownBy_alloc w o none) (by simp)
theorem pm_drewN (h : PM w b l) (n : Nat) : PM (w.drewN n) b l := pm_step h (pw_below_drewN (Below.refl _ _) n)
theorem pm_drew (h : PM w b l) : PM w.drew b l := pm_step h (below_drew1 (Below.refl _ _))
theorem pm_obj (h : PM w b l) : ∃ es clock, w.heap[b]? = some (.map es clock) := by
  obtain ⟨D, n, ⟨es, clock, hb, _⟩, r⟩ := h
  exact ⟨es, clock, hb⟩
theorem pm_neB (h : PM w b l) {cs : Array Value} {t : TypeId} {fr : Nat × Nat} (hg : w.heap[g]? = some (.cells cs t fr)) : b ≠ g := by
  obtain ⟨es, clock, hb⟩ := pm_obj h
  rintro rfl
  rw [hb] at hg
  simp at hg
theorem pm_farN (h : PM w b l) (hne : b ≠ g) {j : Nat} (u : Value) : PM (w.setCell ⟨g, j, none⟩ u) b l :=
  pm_kept (row := some g) h ⟨rfl, rfl, rfl, by simp, fun k _ hk => Below.heap_setCell _ _ _ k (fun e => hk (by rw [e]))⟩ (by simpa using hne)
theorem pm_row {α : Type} {d : Kd α} {e base : Nat} {ok : Nat → Prop} {v : Value} {xs : List α} (h : PM w b l) (hr : d.R e w base ok v xs) : some b ≠ v.ownBlock := by
  intro he
  obtain ⟨cells, hc⟩ := Kd.R_typed hr b he.symm
  exact pm_neB h hc rfl
theorem pm_append {α : Type} {d : Kd α} {e base : Nat} {ok : Nat → Prop} {v : Value} {xs : List α} (h : PM w b l) (hr : d.R e w base ok v xs) (hg : w.grownBy w1 v.ownBlock) : PM w1 b l := pm_kept h hg (pm_row h hr)
/-- A row stays where the map is written. -/
theorem R_map {α : Type} {d : Kd α} {e base : Nat} {ok : Nat → Prop} {v : Value} {xs : List α} (hr : d.R e w base ok v xs) (h : PM w b l) (hg : w.grownBy w1 (some b)) : d.R e w1 base ok v xs :=
  Kd.R_mono (Kd.R_move (Kd.R_bound hr) (fun k hk => hg.block k hk.2.2.1 (by
    obtain ⟨_, _, _, q, _, cells, hc⟩ := hk
    intro he
    injection he with he
    subst he
    exact pm_neB h hc rfl))) (fun _ hk => hk.1)
end
section
variable {rest : List Oper} {o : Oper} {a : Act} {ops : Array Oper} {Q : Exit → Act → World → Prop} {W : World} {b : Nat} {l : List S67}
theorem gate_map {t : TypeId} {m x v : Operand} (_ho : o.op = .mapUpdate t m x v) (h : wpList Try.prog ops Q (o :: rest) a W) : wpList Try.prog ops Q (o :: rest) a W := h
theorem pm_make (hgd : o.guard = none) (hop : o.op = .makeMap 112 none) (h : ∀ b w1, Below W.heap.size W w1 → W.heap.size ≤ b → PM w1 b [] → wpList Try.prog ops Q rest (a.put o.dst (.map (some b))) w1) : wpList Try.prog ops Q (o :: rest) a W := by
  refine Kd.event_run hgd (v := .map (some W.heap.size)) (w1 := W.alloc (.map #[] 0)) ?_ (h _ _ (below_alloc (Below.refl _ _) _) (Nat.le_refl _) ⟨.map [], 0, World.ownsMap_made _ _ _ _, Nat.le_refl _, Maps.isMap_empty, fun c kl _ => ⟨rfl, fun j hj => by simp [lastIdx] at hj⟩⟩)
  simp [execOp, hop, run_makeMap]
theorem pm_put (hgd : o.guard = none) (m x v : Operand) (hop : o.op = .mapUpdate 112 m x v) (hm : a.eval m = .map (some b)) (hM : PM W b l) (hl : l.length ≤ 35184372088832) (c : S67) (hx : a.eval x = valC c) (hv : a.eval v = .int .i64 (l.length : Int)) (hc : wfC c = true)
    (h : ∀ w1, W.grownBy w1 (some b) → PM w1 b (l ++ [c]) → wpList Try.prog ops Q rest (a.put o.dst undef) w1) : wpList Try.prog ops Q (o :: rest) a W := by
  obtain ⟨D, n, ho, hn, hI, hD⟩ := hM
  obtain ⟨kl, hk⟩ := keyC c hc
  have hw : (Lit.int .i64 (l.length : Int)).wf = true := by
    simp only [Lit.wf, IntKind.min, IntKind.max, IntKind.signed, IntKind.bits, Bool.and_eq_true, decide_eq_true_eq, if_true]; omega
  refine wpList_mapUpdate_own W hgd m x v 112 hop 67 3 keyedC Try.underlying112 (plainElem Try.prog 3) b n D hm ho (by simp only [maxLen]; omega) _ _ kl hx hv hk _ [] (plainElem_int Try.underlying3 hw) ?_
  intro w1 ho1 hg
  refine h w1 hg ⟨_, _, ho1, by simp; omega, hI.put _ _, fun d kd hd => ?_⟩
  rw [lastIdx_snoc]
  by_cases e : c.f0 = d.f0 ∧ c.f1 = d.f1
  · have : valC c = valC d := by simp [valC, e.1, e.2]
    rw [← this, hk] at hd
    injection hd with hd
    subst hd
    simp only [e, and_self, if_true, Nat.zero_add]
    refine ⟨by rw [Maps.has_put_same hI (keyedC.key hk)]; rfl, fun j hj => ?_⟩
    obtain rfl := Option.some.inj hj
    exact Maps.atKey_put_same hI (keyedC.key hk) _ _
  · have hne : kd ≠ kl := fun he => e (valC_inj (keyedC.inj hk (he ▸ hd)))
    simp only [e, if_false]
    rw [Maps.has_put_other hne, Maps.atKey_put_other hne]
    exact hD d kd hd
theorem rd_take {l : List S67} {i : Nat} (h : i < l.length) : l.take i ++ [l.getD i z67] = l.take (i + 1) := by
  rw [List.take_add_one, List.getD_eq_getElem?_getD, List.getElem?_eq_getElem h]; rfl
theorem pm_putAt (hgd : o.guard = none) (m x v : Operand) (hop : o.op = .mapUpdate 112 m x v) (hm : a.eval m = .map (some b)) (i : Int) (hM : PM W b (l.take i.toNat)) (h0 : 0 ≤ i) (h1 : i < (l.length : Int)) (hl : l.length ≤ 35184372088832) (hw : l.all wfC = true)
    (hx : a.eval x = .agg #[.int .i64 (rd_T67 l i).f0, .int .i64 (rd_T67 l i).f1]) (hv : a.eval v = .int .i64 i)
    (h : ∀ w1, W.grownBy w1 (some b) → 0 ≤ wrap64 (i + 1) → PM w1 b (l.take (wrap64 (i + 1)).toNat) → wpList Try.prog ops Q rest (a.put o.dst undef) w1) : wpList Try.prog ops Q (o :: rest) a W := by
  have hi : i.toNat < l.length := by omega
  have e : wrap64 (i + 1) = i + 1 := by simp only [wrap64]; omega
  have hlen : (l.take i.toNat).length = i.toNat := by rw [List.length_take]; omega
  refine pm_put hgd m x v hop hm hM (by omega) (rd_T67 l i) hx (by rw [hv, hlen]; congr 1; omega) ?_ ?_
  · refine List.all_eq_true.1 hw _ ?_
    unfold rd_T67
    rw [List.getD_eq_getElem?_getD, List.getElem?_eq_getElem hi]
    exact List.getElem_mem hi
  · intro w1 hg hp
    have hp' : PM w1 b (l.take i.toNat ++ [l.getD i.toNat z67]) := hp
    rw [rd_take hi] at hp'
    refine h w1 hg (by omega) ?_
    rw [e, show (i + 1).toNat = i.toNat + 1 by omega]
    exact hp'
theorem pm_all {w : World} {i : Int} (h : PM w b (l.take i.toNat)) (hi : ¬ i < (l.length : Int)) : PM w b l := by
  rwa [List.take_of_length_le (by omega)] at h
theorem pm_look (hgd : o.guard = none) (m x : Operand) (hop : o.op = .lookup 112 m x true) (hm : a.eval m = .map (some b)) (hM : PM W b l) (c0 c1 : Int) (hx : a.eval x = .agg #[.int .i64 c0, .int .i64 c1]) {t : Int} {ok : Bool} (hf : impl_partsLook.f l c0 c1 = some (t, ok))
    (h : ∀ w1, Below W.heap.size W w1 → PM w1 b l → wpList Try.prog ops Q rest (a.put o.dst (.tuple #[.int .i64 t, .bool ok])) w1) : wpList Try.prog ops Q (o :: rest) a W := by
  have hM' := hM
  obtain ⟨D, n, ho, hn, hI, hD⟩ := hM
  unfold impl_partsLook.f at hf
  by_cases hw : wfC ⟨c0, c1⟩ = true
  · rw [if_pos hw] at hf
    obtain ⟨kl, hk⟩ := keyC ⟨c0, c1⟩ hw
    obtain ⟨h1, h2⟩ := hD ⟨c0, c1⟩ kl hk
    refine wpList_lookup_own_ok_int W hgd m x 112 hop 67 3 .i64 keyedC Try.underlying112 Try.underlying3 (by kernel_rfl) b n D hm ho _ kl hx hk ?_
    intro q hq _
    cases e : lastIdx l ⟨c0, c1⟩ 0 with
    | some j =>
      rw [e] at hf h1
      have h3 := h2 j e
      rw [h3] at hq
      simp only [Option.some.injEq, Prod.mk.injEq] at hf
      obtain ⟨rfl, rfl⟩ := hf
      obtain rfl : (j : Int) = q := by simpa using hq
      rw [h1]
      exact h W (Below.refl _ _) hM'
    | none =>
      rw [e] at hf h1
      rw [Maps.atKey_of_not_has (by simpa using h1)] at hq
      simp only [Option.some.injEq, Prod.mk.injEq] at hf
      obtain ⟨rfl, rfl⟩ := hf
      obtain rfl : (0 : Int) = q := by simpa using hq
      rw [h1]
      exact h W (Below.refl _ _) hM'
  · rw [if_neg hw] at hf
    exact absurd hf (by simp)
end

end Go.Proofs.Ytpjioedfiigefaa.F
