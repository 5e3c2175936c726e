-- PRINTED by print.py (a twelfth state) out of the translation. Not trusted: Lean checks it.
import Derived.Test.YtnohbmnoioikbaaFx0
import Derived.Test.YtnohbmnoioikbaaFx1
import Derived.Test.YtnohbmnoioikbaaFx5
namespace Go.Proofs.Ytnohbmnoioikbaa.F
open Go.RowKit Go.Proofs.YtnohbmnoioikbaaW.PrintWords Go.Proofs.YtnohbmnoioikbaaW.PrintLast Go.Proofs.YtnohbmnoioikbaaW.PrintMore
attribute [local go_sem] max2_int min2_int max_two min_two max_three min_three max_four min_four   -- for this text's walks alone
set_option linter.unusedVariables false
set_option linter.unusedSimpArgs false

attribute [local go_sem high] eqA55
/-! ### spec_l02Index: function 76 -/
def spec_l02Index.l0 : Nat → List (S55) → Int → Int → Int → Option (Int)
 | 0, _, _, _, _ => none
 | k + 1, x0, x5, x450000, x450001 => if x5 < (x0.length : Int) then (if 0 ≤ x5 then (if (((rd_T55 x0 x5).f0) == x450000 && (((rd_T55 x0 x5).f1) == x450001)) = true then (some x5) else (spec_l02Index.l0 k x0 (wrap64 (x5 + 1)) x450000 x450001)) else (none)) else (some (-1))
def spec_l02Index.f (k : Nat) (l0 : List (S55)) (a1_0 : Int) (a1_1 : Int) : Option (Int) := spec_l02Index.l0 k l0 0 a1_0 a1_1
set_option maxHeartbeats 8000000 in
set_option maxRecDepth 100000 in
theorem spec_l02Index.calls (k : Nat) (A0 : Option Addr) (c0 : Nat) (l0 : List (S55)) (a1_0 : Int) (a1_1 : Int) (r : Int) (w : World) (hr0 : Kd.C k55 w A0 l0.length l0) (hc0 : l0.length ≤ c0) (h : spec_l02Index.f k l0 a1_0 a1_1 = some r) :
  Calls Try.prog 76 #[.slice A0 l0.length c0, .agg #[.int .i64 a1_0, .int .i64 a1_1]] w fun e w' => e = .returned (.int .i64 r) ∧ Below w.heap.size w w' := by
 have hu55 := Try.underlying55
 have HR0 := Aside0.mk hr0
 have HC0 := Aside0.mk hc0
 clear hr0 hc0
 have HB := Aside0.mk (Below.refl w.heap.size w)
 have H : (spec_l02Index.l0 k l0 0 a1_0 a1_1) = some r := h
 clear h
 have H' := Aside0.mk H
 clear H
 go_enter Try.func76, Try.ntmps76
 go_wp2_with (first | ((with_reducible refine gate_dst (N := 3) rfl ?_); refine box_event ?hg (N := 3) ?hd (cs := #[.int .i64 a1_0, .int .i64 a1_1]) (t := 55) ?hr ?_; (case hd => rfl); (case hg => rfl); (case hr => first | (go_simp; done) | (go_simp; rfl)); intro gb449 hg w3 hbox hb; have n0_ := Aside0.mk (below_step (by repeat (first | (with_reducible first | exact HB.out | apply below_alloc | apply pw_below_drewN | apply below_drew1) | exact HB.out)) hb); have n1_ := Aside0.mk (hbox); have n2_ := Aside0.mk ((by rw [hg]; exact (below_size (by repeat (first | (with_reducible first | exact HB.out | apply below_alloc | apply pw_below_drewN | apply below_drew1) | exact HB.out))) : w.heap.size ≤ gb449)); have n3_ := Aside0.mk ((by rw [hg]; exact (below_size (by repeat (first | (with_reducible first | exact HB.out | apply below_alloc | apply pw_below_drewN | apply below_drew1) | exact HB.out))) : w.heap.size ≤ gb449)); clear HB; have HB := n0_; have BK449 := n1_; have GW449 := n2_; have GE449 := n3_; clear n0_ n1_ n2_ n3_; clear hb hbox hg))
 repeat (go_quiet (first | ((with_reducible refine gate_dst (N := 3) rfl ?_); refine box_event ?hg (N := 3) ?hd (cs := #[.int .i64 a1_0, .int .i64 a1_1]) (t := 55) ?hr ?_; (case hd => rfl); (case hg => rfl); (case hr => first | (go_simp; done) | (go_simp; rfl)); intro gb449 hg w3 hbox hb; have n0_ := Aside0.mk (below_step (by repeat (first | (with_reducible first | exact HB.out | apply below_alloc | apply pw_below_drewN | apply below_drew1) | exact HB.out)) hb); have n1_ := Aside0.mk (hbox); have n2_ := Aside0.mk ((by rw [hg]; exact (below_size (by repeat (first | (with_reducible first | exact HB.out | apply below_alloc | apply pw_below_drewN | apply below_drew1) | exact HB.out))) : w.heap.size ≤ gb449)); have n3_ := Aside0.mk ((by rw [hg]; exact (below_size (by repeat (first | (with_reducible first | exact HB.out | apply below_alloc | apply pw_below_drewN | apply below_drew1) | exact HB.out))) : w.heap.size ≤ gb449)); clear HB; have HB := n0_; have BK449 := n1_; have GW449 := n2_; have GE449 := n3_; clear n0_ n1_ n2_ n3_; clear hb hbox hg)); try go_wp2_with (first | ((with_reducible refine gate_dst (N := 3) rfl ?_); refine box_event ?hg (N := 3) ?hd (cs := #[.int .i64 a1_0, .int .i64 a1_1]) (t := 55) ?hr ?_; (case hd => rfl); (case hg => rfl); (case hr => first | (go_simp; done) | (go_simp; rfl)); intro gb449 hg w3 hbox hb; have n0_ := Aside0.mk (below_step (by repeat (first | (with_reducible first | exact HB.out | apply below_alloc | apply pw_below_drewN | apply below_drew1) | exact HB.out)) hb); have n1_ := Aside0.mk (hbox); have n2_ := Aside0.mk ((by rw [hg]; exact (below_size (by repeat (first | (with_reducible first | exact HB.out | apply below_alloc | apply pw_below_drewN | apply below_drew1) | exact HB.out))) : w.heap.size ≤ gb449)); have n3_ := Aside0.mk ((by rw [hg]; exact (below_size (by repeat (first | (with_reducible first | exact HB.out | apply below_alloc | apply pw_below_drewN | apply below_drew1) | exact HB.out))) : w.heap.size ≤ gb449)); clear HB; have HB := n0_; have BK449 := n1_; have GW449 := n2_; have GE449 := n3_; clear n0_ n1_ n2_ n3_; clear hb hbox hg)))
 go_loopg [5] k (fun kq v5 w' => ∃ (x5_1 : Int), v5 = .int .i64 x5_1 ∧ Aside0 (spec_l02Index.l0 kq l0 x5_1 a1_0 a1_1 = some r) ∧ Aside0 (kq ≤ k) ∧ Aside0 (w'.heap[gb449]? = some (.cells #[.int .i64 a1_0, .int .i64 a1_1] 55 (0, 0))) ∧ Aside0 (Below w.heap.size w w'))
 case atStart => exact ⟨(0), (by first | rfl | (simp; done) | (simp [*]; done)), H', ⟨Nat.le_refl _⟩, ⟨by (with_reducible repeat (first | refine blk_drewN ?_ _ | refine blk_drew ?_ | refine blk_alloc ?_ _)); exact BK449.out⟩, ⟨by repeat (first | (with_reducible first | exact HB.out | apply below_alloc | apply pw_below_drewN | apply below_drew1 | refine below_set ?_ GE449.out) | exact HB.out)⟩⟩
 case round =>
  clear H'
  try clear p2
  obtain ⟨x5_1, rfl, HA, HK1, BK449, HB⟩ := hrel
  cases gk with
  | zero => exact absurd HA.out (by simp [spec_l02Index.l0])
  | succ k1 =>
   have H := HA.out
   clear HA
   simp only [spec_l02Index.l0] at H
   by_cases c4 : x5_1 < (l0.length : Int)
   ·rw [if_pos c4] at H
    have c4b0 : decide (x5_1 < (l0.length : Int)) = true := decide_eq_true c4
    clear c4
    by_cases c5 : 0 ≤ x5_1
    ·rw [if_pos c5] at H
     have c5b0 : decide (0 ≤ x5_1) = true := decide_eq_true c5
     clear c5
     by_cases c6 : (((rd_T55 l0 x5_1).f0) == a1_0 && (((rd_T55 l0 x5_1).f1) == a1_1)) = true
     ·rw [if_pos c6] at H
      have c6b0 : (((rd_T55 l0 x5_1).f0) == a1_0 && (((rd_T55 l0 x5_1).f1) == a1_1)) = true := c6
      (try (have c6b1 : decide (((rd_T55 l0 x5_1).f0) = a1_0 && (((rd_T55 l0 x5_1).f1) == a1_1)) = true := by simpa using c6))
      (try (have c6b2 : (((rd_T55 l0 x5_1).f0) == a1_0 && (((rd_T55 l0 x5_1).f1) == a1_1)) = true := by simpa using c6))
      clear c6
      obtain rfl := Option.some.inj H
      have p450 : 0 ≤ (x5_1 : Int) := of_decide_eq_true (by first | (with_reducible assumption) | assumption)
      have q450 : x5_1 < (l0.length : Int) := of_decide_eq_true (by first | (with_reducible assumption) | assumption)
      obtain ⟨ad450, e450, hx450_0, hx450_1⟩ := at_T55 HR0.out x5_1 p450 q450
      cases e450
      replace hx450_0 := (HB.out.cell (World.block_lt_of_cell? w _ hx450_0)).trans hx450_0
      replace hx450_1 := (HB.out.cell (World.block_lt_of_cell? w _ hx450_1)).trans hx450_1
      replace p450 := eq_true p450
      replace q450 := eq_true q450
      have hcz7_0 : wr.cell? ⟨gb449, 0, none⟩ = some (.int .i64 a1_0) := (blk_cell BK449.out 0).trans rfl
      have hcz7_1 : wr.cell? ⟨gb449, 1, none⟩ = some (.int .i64 a1_1) := (blk_cell BK449.out 1).trans rfl
      have hfz7_0 := blk_frozen BK449.out 0
      have hfz7_1 := blk_frozen BK449.out 1
      go_wp2
      repeat (go_quiet (fail); try go_wp2)
      go_ret
      exact ⟨by first | rfl | (simp [errW_none, errW_some] <;> rfl) | (simp [*, errW_none, errW_some] <;> rfl), by repeat (first | (with_reducible first | exact HB.out | apply below_alloc | apply pw_below_drewN | apply below_drew1 | refine below_set ?_ GE449.out) | exact HB.out)⟩
     ·rw [if_neg c6] at H
      have c6b0 : (((rd_T55 l0 x5_1).f0) == a1_0 && (((rd_T55 l0 x5_1).f1) == a1_1)) = false := by simpa using c6
      (try (have c6b1 : decide (((rd_T55 l0 x5_1).f0) = a1_0 && (((rd_T55 l0 x5_1).f1) == a1_1)) = false := by simpa using c6))
      (try (have c6b2 : (((rd_T55 l0 x5_1).f0) == a1_0 && (((rd_T55 l0 x5_1).f1) == a1_1)) = false := by simpa using c6))
      (try (have c6b3 : ¬ (((rd_T55 l0 x5_1).f0) = a1_0 && (((rd_T55 l0 x5_1).f1) == a1_1)) := by simpa using c6))
      clear c6
      have H' := Aside0.mk H
      clear H
      have p450 : 0 ≤ (x5_1 : Int) := of_decide_eq_true (by first | (with_reducible assumption) | assumption)
      have q450 : x5_1 < (l0.length : Int) := of_decide_eq_true (by first | (with_reducible assumption) | assumption)
      obtain ⟨ad450, e450, hx450_0, hx450_1⟩ := at_T55 HR0.out x5_1 p450 q450
      cases e450
      replace hx450_0 := (HB.out.cell (World.block_lt_of_cell? w _ hx450_0)).trans hx450_0
      replace hx450_1 := (HB.out.cell (World.block_lt_of_cell? w _ hx450_1)).trans hx450_1
      replace p450 := eq_true p450
      replace q450 := eq_true q450
      have hcz8_0 : wr.cell? ⟨gb449, 0, none⟩ = some (.int .i64 a1_0) := (blk_cell BK449.out 0).trans rfl
      have hcz8_1 : wr.cell? ⟨gb449, 1, none⟩ = some (.int .i64 a1_1) := (blk_cell BK449.out 1).trans rfl
      have hfz8_0 := blk_frozen BK449.out 0
      have hfz8_1 := blk_frozen BK449.out 1
      go_wp2
      repeat (go_quiet (fail); try go_wp2)
      go_roundg k1
      case measure => have := HK1.out; omega
      case rel => exact ⟨(wrap64 (x5_1 + 1)), (by first | rfl | (simp; done) | (simp [*]; done)), H', ⟨by have := HK1.out; omega⟩, ⟨by (with_reducible repeat (first | refine blk_drewN ?_ _ | refine blk_drew ?_ | refine blk_alloc ?_ _)); exact BK449.out⟩, ⟨by repeat (first | (with_reducible first | exact HB.out | apply below_alloc | apply pw_below_drewN | apply below_drew1 | refine below_set ?_ GE449.out) | exact HB.out)⟩⟩
    ·rw [if_neg c5] at H
     exact absurd H (by simp)
   ·rw [if_neg c4] at H
    have c4b0 : decide (x5_1 < (l0.length : Int)) = false := decide_eq_false c4
    clear c4
    obtain rfl := Option.some.inj H
    go_wp2
    repeat (go_quiet (fail); try go_wp2)
    go_ret
    exact ⟨by first | rfl | (simp [errW_none, errW_some] <;> rfl) | (simp [*, errW_none, errW_some] <;> rfl), by repeat (first | (with_reducible first | exact HB.out | apply below_alloc | apply pw_below_drewN | apply below_drew1 | refine below_set ?_ GE449.out) | exact HB.out)⟩

/-! ### spec_l07Around: function 93 -/
def spec_l07Around.f (a0 : Int) (a1_0 : Int) (a1_1 : Int) : Option ((List (S55))) := if a0 = 1 then (some (([(⟨a1_0, wrap64 (a1_1 - 1)⟩ : S55), (⟨wrap64 (a1_0 + 1), wrap64 (a1_1 - 1)⟩ : S55), (⟨wrap64 (a1_0 - 1), a1_1⟩ : S55), (⟨wrap64 (a1_0 + 1), a1_1⟩ : S55), (⟨wrap64 (a1_0 - 1), wrap64 (a1_1 + 1)⟩ : S55), (⟨a1_0, wrap64 (a1_1 + 1)⟩ : S55)] : List (S55)))) else ((spec_l01Mod.f a1_0 3).bind fun t455 => (if t455 = 1 then (some (([(⟨wrap64 (a1_0 + 1), wrap64 (a1_1 - 2)⟩ : S55), (⟨wrap64 (a1_0 - 2), wrap64 (a1_1 + 1)⟩ : S55), (⟨wrap64 (a1_0 + 1), wrap64 (a1_1 + 1)⟩ : S55)] : List (S55)))) else (some (([(⟨wrap64 (a1_0 - 1), wrap64 (a1_1 - 1)⟩ : S55), (⟨wrap64 (a1_0 + 2), wrap64 (a1_1 - 1)⟩ : S55), (⟨wrap64 (a1_0 - 1), wrap64 (a1_1 + 2)⟩ : S55)] : List (S55))))))
set_option maxHeartbeats 8000000 in
set_option maxRecDepth 100000 in
theorem spec_l07Around.calls (a0 : Int) (a1_0 : Int) (a1_1 : Int) (r : List (S55)) (w : World) (h : spec_l07Around.f a0 a1_0 a1_1 = some r) :
  Calls Try.prog 93 #[.int .i64 a0, .agg #[.int .i64 a1_0, .int .i64 a1_1]] w fun e w' => ∃ v0_ : Value, e = .returned (v0_) ∧ Kd.R k55 55 w' w.heap.size (fun _ => True) v0_ r ∧ Below w.heap.size w w' := by
 have hu55 := Try.underlying55
 have HB := Aside0.mk (Below.refl w.heap.size w)
 have H : (if a0 = 1 then (some (([(⟨a1_0, wrap64 (a1_1 - 1)⟩ : S55), (⟨wrap64 (a1_0 + 1), wrap64 (a1_1 - 1)⟩ : S55), (⟨wrap64 (a1_0 - 1), a1_1⟩ : S55), (⟨wrap64 (a1_0 + 1), a1_1⟩ : S55), (⟨wrap64 (a1_0 - 1), wrap64 (a1_1 + 1)⟩ : S55), (⟨a1_0, wrap64 (a1_1 + 1)⟩ : S55)] : List (S55)))) else ((spec_l01Mod.f a1_0 3).bind fun t455 => (if t455 = 1 then (some (([(⟨wrap64 (a1_0 + 1), wrap64 (a1_1 - 2)⟩ : S55), (⟨wrap64 (a1_0 - 2), wrap64 (a1_1 + 1)⟩ : S55), (⟨wrap64 (a1_0 + 1), wrap64 (a1_1 + 1)⟩ : S55)] : List (S55)))) else (some (([(⟨wrap64 (a1_0 - 1), wrap64 (a1_1 - 1)⟩ : S55), (⟨wrap64 (a1_0 + 2), wrap64 (a1_1 - 1)⟩ : S55), (⟨wrap64 (a1_0 - 1), wrap64 (a1_1 + 2)⟩ : S55)] : List (S55))))))) = some r := h
 clear h
 by_cases c3 : a0 = 1
 ·rw [if_pos c3] at H
  have c3b0 : (a0 == 1) = true := beq_iff_eq.mpr c3
  have c3b1 : (a0 != 1) = false := bne_eq_false_iff_eq.mpr c3
  clear c3
  obtain ⟨y452, hy452⟩ : ∃ y_ : List (S55), y_ = (([(⟨a1_0, wrap64 (a1_1 - 1)⟩ : S55), (⟨wrap64 (a1_0 + 1), wrap64 (a1_1 - 1)⟩ : S55), (⟨wrap64 (a1_0 - 1), a1_1⟩ : S55), (⟨wrap64 (a1_0 + 1), a1_1⟩ : S55), (⟨wrap64 (a1_0 - 1), wrap64 (a1_1 + 1)⟩ : S55), (⟨a1_0, wrap64 (a1_1 + 1)⟩ : S55)] : List (S55))) := ⟨_, rfl⟩
  replace H : (some y452) = some r := by first | (rw [hy452]; with_reducible exact H) | (have H2_ := (Option.bind_some _ _).symm.trans H; rw [hy452]; with_reducible exact H2_) | (have H2_ := (Option.bind_some _ _).symm.trans H; with_reducible exact H2_) | with_reducible exact H | (rw [hy452]; exact H) | exact H
  have Ny452 := Aside0.mk hy452
  clear hy452
  obtain rfl := Option.some.inj H
  go_enter Try.func93, Try.ntmps93
  go_wp2_with (first | ((with_reducible refine gate_dst (N := 3) rfl ?_); refine box_event ?hg (N := 3) ?hd (cs := #[.int .i64 a1_0, .int .i64 a1_1]) (t := 55) ?hr ?_; (case hd => rfl); (case hg => rfl); (case hr => first | (go_simp; done) | (go_simp; rfl)); intro gb451 hg w4 hbox hb; have n0_ := Aside0.mk (below_step (by repeat (first | (with_reducible first | exact HB.out | apply below_alloc | apply pw_below_drewN | apply below_drew1) | exact HB.out)) hb); have n1_ := Aside0.mk (hbox); have n2_ := Aside0.mk ((by rw [hg]; exact (below_size (by repeat (first | (with_reducible first | exact HB.out | apply below_alloc | apply pw_below_drewN | apply below_drew1) | exact HB.out))) : w.heap.size ≤ gb451)); have n3_ := Aside0.mk ((by rw [hg]; exact (below_size (by repeat (first | (with_reducible first | exact HB.out | apply below_alloc | apply pw_below_drewN | apply below_drew1) | exact HB.out))) : w.heap.size ≤ gb451)); clear HB; have HB := n0_; have BK451 := n1_; have GW451 := n2_; have GE451 := n3_; clear n0_ n1_ n2_ n3_; clear hb hbox hg; have hcz5_0 : w4.cell? ⟨gb451, 0, none⟩ = some (.int .i64 a1_0) := (blk_cell BK451.out 0).trans rfl; have hcz5_1 : w4.cell? ⟨gb451, 1, none⟩ = some (.int .i64 a1_1) := (blk_cell BK451.out 1).trans rfl; have hfz5_0 := blk_frozen BK451.out 0; have hfz5_1 := blk_frozen BK451.out 1) | ((with_reducible refine gate_dst (N := 45) rfl ?_); refine Kd.R_lit k55 _ 55 ?hg (N := 45) ?hd (xs := ([(⟨a1_0, wrap64 (a1_1 - 1)⟩ : S55), (⟨wrap64 (a1_0 + 1), wrap64 (a1_1 - 1)⟩ : S55), (⟨wrap64 (a1_0 - 1), a1_1⟩ : S55), (⟨wrap64 (a1_0 + 1), a1_1⟩ : S55), (⟨wrap64 (a1_0 - 1), wrap64 (a1_1 + 1)⟩ : S55), (⟨a1_0, wrap64 (a1_1 + 1)⟩ : S55)] : List (S55))) (inner := [.int .i64 a1_0, .int .i64 (wrap64 (a1_1 - 1)), .int .i64 (wrap64 (a1_0 + 1)), .int .i64 (wrap64 (a1_1 - 1)), .int .i64 (wrap64 (a1_0 - 1)), .int .i64 a1_1, .int .i64 (wrap64 (a1_0 + 1)), .int .i64 a1_1, .int .i64 (wrap64 (a1_0 - 1)), .int .i64 (wrap64 (a1_1 + 1)), .int .i64 a1_0, .int .i64 (wrap64 (a1_1 + 1))]) (ok := fun _ => True) (okp := fun _ => True) ?hr ?hp (fun _ hk => hk) trivial (Below.refl _ _) (Nat.le_refl _) (by simp) ?_; (case hd => rfl); (case hg => rfl); (case hr => first | (go_simp; done) | (go_simp; rfl)); (case hp => exact (Reps.c2 (show Kd.M k55 _ _ _ (⟨a1_0, wrap64 (a1_1 - 1)⟩ : S55) [.int .i64 a1_0, .int .i64 (wrap64 (a1_1 - 1))] from (k55_mkM _ _ _ (⟨a1_0, wrap64 (a1_1 - 1)⟩ : S55) )) (Reps.c2 (show Kd.M k55 _ _ _ (⟨wrap64 (a1_0 + 1), wrap64 (a1_1 - 1)⟩ : S55) [.int .i64 (wrap64 (a1_0 + 1)), .int .i64 (wrap64 (a1_1 - 1))] from (k55_mkM _ _ _ (⟨wrap64 (a1_0 + 1), wrap64 (a1_1 - 1)⟩ : S55) )) (Reps.c2 (show Kd.M k55 _ _ _ (⟨wrap64 (a1_0 - 1), a1_1⟩ : S55) [.int .i64 (wrap64 (a1_0 - 1)), .int .i64 a1_1] from (k55_mkM _ _ _ (⟨wrap64 (a1_0 - 1), a1_1⟩ : S55) )) (Reps.c2 (show Kd.M k55 _ _ _ (⟨wrap64 (a1_0 + 1), a1_1⟩ : S55) [.int .i64 (wrap64 (a1_0 + 1)), .int .i64 a1_1] from (k55_mkM _ _ _ (⟨wrap64 (a1_0 + 1), a1_1⟩ : S55) )) (Reps.c2 (show Kd.M k55 _ _ _ (⟨wrap64 (a1_0 - 1), wrap64 (a1_1 + 1)⟩ : S55) [.int .i64 (wrap64 (a1_0 - 1)), .int .i64 (wrap64 (a1_1 + 1))] from (k55_mkM _ _ _ (⟨wrap64 (a1_0 - 1), wrap64 (a1_1 + 1)⟩ : S55) )) (Reps.c2 (show Kd.M k55 _ _ _ (⟨a1_0, wrap64 (a1_1 + 1)⟩ : S55) [.int .i64 a1_0, .int .i64 (wrap64 (a1_1 + 1))] from (k55_mkM _ _ _ (⟨a1_0, wrap64 (a1_1 + 1)⟩ : S55) )) (Reps.none _ _)))))))); intro v453 w6 ho7 hb hg_ hnew_; clear hg_ hnew_; (first | rw [← Ny452.out] at ho7 | (simp only [Int.reduceToNat] at ho7; rw [← Ny452.out] at ho7)); have n0_ := Aside0.mk (Kd.R_lower (Kd.R_newB ho7 (g := gb451) (o := .cells #[.int .i64 a1_0, .int .i64 a1_1] 55 (0, 0)) (by (with_reducible repeat (first | refine blk_drewN ?_ _ | refine blk_drew ?_ | refine blk_alloc ?_ _)); exact BK451.out)) (below_size (by repeat (first | (with_reducible first | exact HB.out | apply below_alloc | apply pw_below_drewN | apply below_drew1 | refine below_set ?_ GE451.out) | exact HB.out)))); have n1_ := Aside0.mk (blk_below (g := gb451) (o := .cells #[.int .i64 a1_0, .int .i64 a1_1] 55 (0, 0)) (by (with_reducible repeat (first | refine blk_drewN ?_ _ | refine blk_drew ?_ | refine blk_alloc ?_ _)); exact BK451.out) hb); have n2_ := Aside0.mk (below_step (by repeat (first | (with_reducible first | exact HB.out | apply below_alloc | apply pw_below_drewN | apply below_drew1 | refine below_set ?_ GE451.out) | exact HB.out)) hb); clear BK451; clear HB; have HO454 := n0_; have BK451 := n1_; have HB := n2_; clear n0_ n1_ n2_; clear hb ho7))
  go_ret
  exact ⟨_, by first | rfl | (simp [errW_none, errW_some] <;> rfl) | (simp [*, errW_none, errW_some] <;> rfl), by (with_reducible repeat (first | apply Kd.R_alloc | apply Kd.R_drewN | apply Kd.R_drew)); exact Kd.R_mono HO454.out (fun _ hk => trivial), by repeat (first | (with_reducible first | exact HB.out | apply below_alloc | apply pw_below_drewN | apply below_drew1 | refine below_set ?_ GE451.out) | exact HB.out)⟩
 ·rw [if_neg c3] at H
  have c3b0 : (a0 == 1) = false := beq_eq_false_iff_ne.mpr c3
  have c3b1 : (a0 != 1) = true := bne_iff_ne.mpr c3
  replace H := Option.bind_eq_some_iff.mp H
  obtain ⟨t455, A80, H⟩ := H
  replace H : (if t455 = 1 then (some (([(⟨wrap64 (a1_0 + 1), wrap64 (a1_1 - 2)⟩ : S55), (⟨wrap64 (a1_0 - 2), wrap64 (a1_1 + 1)⟩ : S55), (⟨wrap64 (a1_0 + 1), wrap64 (a1_1 + 1)⟩ : S55)] : List (S55)))) else (some (([(⟨wrap64 (a1_0 - 1), wrap64 (a1_1 - 1)⟩ : S55), (⟨wrap64 (a1_0 + 2), wrap64 (a1_1 - 1)⟩ : S55), (⟨wrap64 (a1_0 - 1), wrap64 (a1_1 + 2)⟩ : S55)] : List (S55))))) = some r := H
  have A8 := Aside0.mk A80
  clear A80
  by_cases c9 : t455 = 1
  ·rw [if_pos c9] at H
   have c9b0 : (t455 == 1) = true := beq_iff_eq.mpr c9
   have c9b1 : (t455 != 1) = false := bne_eq_false_iff_eq.mpr c9
   clear c9
   obtain ⟨y456, hy456⟩ : ∃ y_ : List (S55), y_ = (([(⟨wrap64 (a1_0 + 1), wrap64 (a1_1 - 2)⟩ : S55), (⟨wrap64 (a1_0 - 2), wrap64 (a1_1 + 1)⟩ : S55), (⟨wrap64 (a1_0 + 1), wrap64 (a1_1 + 1)⟩ : S55)] : List (S55))) := ⟨_, rfl⟩
   replace H : (some y456) = some r := by first | (rw [hy456]; with_reducible exact H) | (have H2_ := (Option.bind_some _ _).symm.trans H; rw [hy456]; with_reducible exact H2_) | (have H2_ := (Option.bind_some _ _).symm.trans H; with_reducible exact H2_) | with_reducible exact H | (rw [hy456]; exact H) | exact H
   have Ny456 := Aside0.mk hy456
   clear hy456
   obtain rfl := Option.some.inj H
   go_enter Try.func93, Try.ntmps93
   go_wp2_with (first | ((with_reducible refine gate_dst (N := 3) rfl ?_); refine box_event ?hg (N := 3) ?hd (cs := #[.int .i64 a1_0, .int .i64 a1_1]) (t := 55) ?hr ?_; (case hd => rfl); (case hg => rfl); (case hr => first | (go_simp; done) | (go_simp; rfl)); intro gb451 hg w10 hbox hb; have n0_ := Aside0.mk (below_step (by repeat (first | (with_reducible first | exact HB.out | apply below_alloc | apply pw_below_drewN | apply below_drew1) | exact HB.out)) hb); have n1_ := Aside0.mk (hbox); have n2_ := Aside0.mk ((by rw [hg]; exact (below_size (by repeat (first | (with_reducible first | exact HB.out | apply below_alloc | apply pw_below_drewN | apply below_drew1) | exact HB.out))) : w.heap.size ≤ gb451)); have n3_ := Aside0.mk ((by rw [hg]; exact (below_size (by repeat (first | (with_reducible first | exact HB.out | apply below_alloc | apply pw_below_drewN | apply below_drew1) | exact HB.out))) : w.heap.size ≤ gb451)); clear HB; have HB := n0_; have BK451 := n1_; have GW451 := n2_; have GE451 := n3_; clear n0_ n1_ n2_ n3_; clear hb hbox hg; have hcz11_0 : w10.cell? ⟨gb451, 0, none⟩ = some (.int .i64 a1_0) := (blk_cell BK451.out 0).trans rfl; have hcz11_1 : w10.cell? ⟨gb451, 1, none⟩ = some (.int .i64 a1_1) := (blk_cell BK451.out 1).trans rfl; have hfz11_0 := blk_frozen BK451.out 0; have hfz11_1 := blk_frozen BK451.out 1) | ((with_reducible refine gate_callee (f := 112) rfl ?_); refine goesL_ (some 48) rfl rfl Try.func112 (by kernel_rfl) rfl #[.int .i64 a1_0, .int .i64 3] rfl (by (try simp only [List.map_toArray, List.map_cons, List.map_nil]); first | done | rfl | (simp only [List.length_drop, List.length_take]; rfl)) ?_; (with_reducible refine (spec_l01Mod.calls a1_0 3 t455 _ A8.out).mono ?_); rintro e w' ⟨rfl, ⟨nd, rfl⟩⟩; refine ⟨_, rfl, ?_⟩) | ((with_reducible refine gate_dst (N := 71) rfl ?_); refine Kd.R_lit k55 _ 55 ?hg (N := 71) ?hd (xs := ([(⟨wrap64 (a1_0 + 1), wrap64 (a1_1 - 2)⟩ : S55), (⟨wrap64 (a1_0 - 2), wrap64 (a1_1 + 1)⟩ : S55), (⟨wrap64 (a1_0 + 1), wrap64 (a1_1 + 1)⟩ : S55)] : List (S55))) (inner := [.int .i64 (wrap64 (a1_0 + 1)), .int .i64 (wrap64 (a1_1 - 2)), .int .i64 (wrap64 (a1_0 - 2)), .int .i64 (wrap64 (a1_1 + 1)), .int .i64 (wrap64 (a1_0 + 1)), .int .i64 (wrap64 (a1_1 + 1))]) (ok := fun _ => True) (okp := fun _ => True) ?hr ?hp (fun _ hk => hk) trivial (Below.refl _ _) (Nat.le_refl _) (by simp) ?_; (case hd => rfl); (case hg => rfl); (case hr => first | (go_simp; done) | (go_simp; rfl)); (case hp => exact (Reps.c2 (show Kd.M k55 _ _ _ (⟨wrap64 (a1_0 + 1), wrap64 (a1_1 - 2)⟩ : S55) [.int .i64 (wrap64 (a1_0 + 1)), .int .i64 (wrap64 (a1_1 - 2))] from (k55_mkM _ _ _ (⟨wrap64 (a1_0 + 1), wrap64 (a1_1 - 2)⟩ : S55) )) (Reps.c2 (show Kd.M k55 _ _ _ (⟨wrap64 (a1_0 - 2), wrap64 (a1_1 + 1)⟩ : S55) [.int .i64 (wrap64 (a1_0 - 2)), .int .i64 (wrap64 (a1_1 + 1))] from (k55_mkM _ _ _ (⟨wrap64 (a1_0 - 2), wrap64 (a1_1 + 1)⟩ : S55) )) (Reps.c2 (show Kd.M k55 _ _ _ (⟨wrap64 (a1_0 + 1), wrap64 (a1_1 + 1)⟩ : S55) [.int .i64 (wrap64 (a1_0 + 1)), .int .i64 (wrap64 (a1_1 + 1))] from (k55_mkM _ _ _ (⟨wrap64 (a1_0 + 1), wrap64 (a1_1 + 1)⟩ : S55) )) (Reps.none _ _))))); intro v457 w12 ho13 hb hg_ hnew_; clear hg_ hnew_; (first | rw [← Ny456.out] at ho13 | (simp only [Int.reduceToNat] at ho13; rw [← Ny456.out] at ho13)); have n0_ := Aside0.mk (Kd.R_lower (Kd.R_newB ho13 (g := gb451) (o := .cells #[.int .i64 a1_0, .int .i64 a1_1] 55 (0, 0)) (by (with_reducible repeat (first | refine blk_drewN ?_ _ | refine blk_drew ?_ | refine blk_alloc ?_ _)); exact BK451.out)) (below_size (by repeat (first | (with_reducible first | exact HB.out | apply below_alloc | apply pw_below_drewN | apply below_drew1 | refine below_set ?_ GE451.out) | exact HB.out)))); have n1_ := Aside0.mk (blk_below (g := gb451) (o := .cells #[.int .i64 a1_0, .int .i64 a1_1] 55 (0, 0)) (by (with_reducible repeat (first | refine blk_drewN ?_ _ | refine blk_drew ?_ | refine blk_alloc ?_ _)); exact BK451.out) hb); have n2_ := Aside0.mk (below_step (by repeat (first | (with_reducible first | exact HB.out | apply below_alloc | apply pw_below_drewN | apply below_drew1 | refine below_set ?_ GE451.out) | exact HB.out)) hb); clear BK451; clear HB; have HO458 := n0_; have BK451 := n1_; have HB := n2_; clear n0_ n1_ n2_; clear hb ho13))
   go_ret
   exact ⟨_, by first | rfl | (simp [errW_none, errW_some] <;> rfl) | (simp [*, errW_none, errW_some] <;> rfl), by (with_reducible repeat (first | apply Kd.R_alloc | apply Kd.R_drewN | apply Kd.R_drew)); exact Kd.R_mono HO458.out (fun _ hk => trivial), by repeat (first | (with_reducible first | exact HB.out | apply below_alloc | apply pw_below_drewN | apply below_drew1 | refine below_set ?_ GE451.out) | exact HB.out)⟩
  ·rw [if_neg c9] at H
   have c9b0 : (t455 == 1) = false := beq_eq_false_iff_ne.mpr c9
   have c9b1 : (t455 != 1) = true := bne_iff_ne.mpr c9
   obtain ⟨y459, hy459⟩ : ∃ y_ : List (S55), y_ = (([(⟨wrap64 (a1_0 - 1), wrap64 (a1_1 - 1)⟩ : S55), (⟨wrap64 (a1_0 + 2), wrap64 (a1_1 - 1)⟩ : S55), (⟨wrap64 (a1_0 - 1), wrap64 (a1_1 + 2)⟩ : S55)] : List (S55))) := ⟨_, rfl⟩
   replace H : (some y459) = some r := by first | (rw [hy459]; with_reducible exact H) | (have H2_ := (Option.bind_some _ _).symm.trans H; rw [hy459]; with_reducible exact H2_) | (have H2_ := (Option.bind_some _ _).symm.trans H; with_reducible exact H2_) | with_reducible exact H | (rw [hy459]; exact H) | exact H
   have Ny459 := Aside0.mk hy459
   clear hy459
   obtain rfl := Option.some.inj H
   go_enter Try.func93, Try.ntmps93
   go_wp2_with (first | ((with_reducible refine gate_dst (N := 3) rfl ?_); refine box_event ?hg (N := 3) ?hd (cs := #[.int .i64 a1_0, .int .i64 a1_1]) (t := 55) ?hr ?_; (case hd => rfl); (case hg => rfl); (case hr => first | (go_simp; done) | (go_simp; rfl)); intro gb451 hg w14 hbox hb; have n0_ := Aside0.mk (below_step (by repeat (first | (with_reducible first | exact HB.out | apply below_alloc | apply pw_below_drewN | apply below_drew1) | exact HB.out)) hb); have n1_ := Aside0.mk (hbox); have n2_ := Aside0.mk ((by rw [hg]; exact (below_size (by repeat (first | (with_reducible first | exact HB.out | apply below_alloc | apply pw_below_drewN | apply below_drew1) | exact HB.out))) : w.heap.size ≤ gb451)); have n3_ := Aside0.mk ((by rw [hg]; exact (below_size (by repeat (first | (with_reducible first | exact HB.out | apply below_alloc | apply pw_below_drewN | apply below_drew1) | exact HB.out))) : w.heap.size ≤ gb451)); clear HB; have HB := n0_; have BK451 := n1_; have GW451 := n2_; have GE451 := n3_; clear n0_ n1_ n2_ n3_; clear hb hbox hg; have hcz15_0 : w14.cell? ⟨gb451, 0, none⟩ = some (.int .i64 a1_0) := (blk_cell BK451.out 0).trans rfl; have hcz15_1 : w14.cell? ⟨gb451, 1, none⟩ = some (.int .i64 a1_1) := (blk_cell BK451.out 1).trans rfl; have hfz15_0 := blk_frozen BK451.out 0; have hfz15_1 := blk_frozen BK451.out 1) | ((with_reducible refine gate_callee (f := 112) rfl ?_); refine goesL_ (some 48) rfl rfl Try.func112 (by kernel_rfl) rfl #[.int .i64 a1_0, .int .i64 3] rfl (by (try simp only [List.map_toArray, List.map_cons, List.map_nil]); first | done | rfl | (simp only [List.length_drop, List.length_take]; rfl)) ?_; (with_reducible refine (spec_l01Mod.calls a1_0 3 t455 _ A8.out).mono ?_); rintro e w' ⟨rfl, ⟨nd, rfl⟩⟩; refine ⟨_, rfl, ?_⟩) | ((with_reducible refine gate_dst (N := 93) rfl ?_); refine Kd.R_lit k55 _ 55 ?hg (N := 93) ?hd (xs := ([(⟨wrap64 (a1_0 - 1), wrap64 (a1_1 - 1)⟩ : S55), (⟨wrap64 (a1_0 + 2), wrap64 (a1_1 - 1)⟩ : S55), (⟨wrap64 (a1_0 - 1), wrap64 (a1_1 + 2)⟩ : S55)] : List (S55))) (inner := [.int .i64 (wrap64 (a1_0 - 1)), .int .i64 (wrap64 (a1_1 - 1)), .int .i64 (wrap64 (a1_0 + 2)), .int .i64 (wrap64 (a1_1 - 1)), .int .i64 (wrap64 (a1_0 - 1)), .int .i64 (wrap64 (a1_1 + 2))]) (ok := fun _ => True) (okp := fun _ => True) ?hr ?hp (fun _ hk => hk) trivial (Below.refl _ _) (Nat.le_refl _) (by simp) ?_; (case hd => rfl); (case hg => rfl); (case hr => first | (go_simp; done) | (go_simp; rfl)); (case hp => exact (Reps.c2 (show Kd.M k55 _ _ _ (⟨wrap64 (a1_0 - 1), wrap64 (a1_1 - 1)⟩ : S55) [.int .i64 (wrap64 (a1_0 - 1)), .int .i64 (wrap64 (a1_1 - 1))] from (k55_mkM _ _ _ (⟨wrap64 (a1_0 - 1), wrap64 (a1_1 - 1)⟩ : S55) )) (Reps.c2 (show Kd.M k55 _ _ _ (⟨wrap64 (a1_0 + 2), wrap64 (a1_1 - 1)⟩ : S55) [.int .i64 (wrap64 (a1_0 + 2)), .int .i64 (wrap64 (a1_1 - 1))] from (k55_mkM _ _ _ (⟨wrap64 (a1_0 + 2), wrap64 (a1_1 - 1)⟩ : S55) )) (Reps.c2 (show Kd.M k55 _ _ _ (⟨wrap64 (a1_0 - 1), wrap64 (a1_1 + 2)⟩ : S55) [.int .i64 (wrap64 (a1_0 - 1)), .int .i64 (wrap64 (a1_1 + 2))] from (k55_mkM _ _ _ (⟨wrap64 (a1_0 - 1), wrap64 (a1_1 + 2)⟩ : S55) )) (Reps.none _ _))))); intro v460 w16 ho17 hb hg_ hnew_; clear hg_ hnew_; (first | rw [← Ny459.out] at ho17 | (simp only [Int.reduceToNat] at ho17; rw [← Ny459.out] at ho17)); have n0_ := Aside0.mk (Kd.R_lower (Kd.R_newB ho17 (g := gb451) (o := .cells #[.int .i64 a1_0, .int .i64 a1_1] 55 (0, 0)) (by (with_reducible repeat (first | refine blk_drewN ?_ _ | refine blk_drew ?_ | refine blk_alloc ?_ _)); exact BK451.out)) (below_size (by repeat (first | (with_reducible first | exact HB.out | apply below_alloc | apply pw_below_drewN | apply below_drew1 | refine below_set ?_ GE451.out) | exact HB.out)))); have n1_ := Aside0.mk (blk_below (g := gb451) (o := .cells #[.int .i64 a1_0, .int .i64 a1_1] 55 (0, 0)) (by (with_reducible repeat (first | refine blk_drewN ?_ _ | refine blk_drew ?_ | refine blk_alloc ?_ _)); exact BK451.out) hb); have n2_ := Aside0.mk (below_step (by repeat (first | (with_reducible first | exact HB.out | apply below_alloc | apply pw_below_drewN | apply below_drew1 | refine below_set ?_ GE451.out) | exact HB.out)) hb); clear BK451; clear HB; have HO461 := n0_; have BK451 := n1_; have HB := n2_; clear n0_ n1_ n2_; clear hb ho17))
   go_ret
   exact ⟨_, by first | rfl | (simp [errW_none, errW_some] <;> rfl) | (simp [*, errW_none, errW_some] <;> rfl), by (with_reducible repeat (first | apply Kd.R_alloc | apply Kd.R_drewN | apply Kd.R_drew)); exact Kd.R_mono HO461.out (fun _ hk => trivial), by repeat (first | (with_reducible first | exact HB.out | apply below_alloc | apply pw_below_drewN | apply below_drew1 | refine below_set ?_ GE451.out) | exact HB.out)⟩

end Go.Proofs.Ytnohbmnoioikbaa.F
