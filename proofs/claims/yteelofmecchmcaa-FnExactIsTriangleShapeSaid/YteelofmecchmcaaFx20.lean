-- PRINTED by print.py (a twelfth state) out of the translation. Not trusted: Lean checks it.
import Derived.Test.YteelofmecchmcaaFx0
import Derived.Test.YteelofmecchmcaaFx5
import Derived.Test.YteelofmecchmcaaFx19
namespace Go.Proofs.Yteelofmecchmcaa.F
open Go.RowKit Go.Proofs.YteelofmecchmcaaW.PrintWords Go.Proofs.YteelofmecchmcaaW.PrintLast Go.Proofs.YteelofmecchmcaaW.PrintMore
attribute [local go_sem] max2_int min2_int max_two min_two max_three min_three max_four min_four   -- for this text's walks alone
set_option linter.unusedVariables false
set_option linter.unusedSimpArgs false

/-! ### spec_l07Connected: function 64 -/
mutual
def spec_l07Connected.l0 : Nat → Int → List (S27) → List (S27) → Int → Option (Bool)
  | 0, _, _, _, _ => none
  | k + 1, x0, x1, x5, x6 => if x6 < (x5.length : Int) then (if 0 ≤ x6 then ((spec_l07Around.f x0 ((rd_T27 x5 x6).f0) ((rd_T27 x5 x6).f1)).bind fun t219 => (spec_l07Connected.l1 k x0 x1 x5 x6 t219 0)) else (none)) else (some ((x5.length : Int) == (x1.length : Int)))
def spec_l07Connected.l1 : Nat → Int → List (S27) → List (S27) → Int → List (S27) → Int → Option (Bool)
  | 0, _, _, _, _, _, _ => none
  | k + 1, x0, x1, x5, x6, x7, x8 => if x8 < (x7.length : Int) then (if 0 ≤ x8 then ((spec_l02Index.f k x1 ((rd_T27 x7 x8).f0) ((rd_T27 x7 x8).f1)).bind fun t223 => (if t223 ≥ 0 then ((spec_l02Index.f k x5 ((rd_T27 x7 x8).f0) ((rd_T27 x7 x8).f1)).bind fun t225 => (if t225 < 0 then (if x5.length < 8796093022208 then (spec_l07Connected.l1 k x0 x1 (x5 ++ [(⟨(rd_T27 x7 x8).f0, (rd_T27 x7 x8).f1⟩ : S27)]) x6 x7 (wrap64 (x8 + 1))) else (none)) else (spec_l07Connected.l1 k x0 x1 x5 x6 x7 (wrap64 (x8 + 1))))) else (spec_l07Connected.l1 k x0 x1 x5 x6 x7 (wrap64 (x8 + 1))))) else (none)) else (spec_l07Connected.l0 k x0 x1 x5 (wrap64 (x6 + 1)))
end
def spec_l07Connected.f (k : Nat) (a0 : Int) (l1 : List (S27)) : Option (Bool) := if 0 < (l1.length : Int) then (spec_l07Connected.l0 k a0 l1 (([(⟨(rd_T27 l1 0).f0, (rd_T27 l1 0).f1⟩ : S27)] : List (S27))) 0) else (none)
theorem spec_l07Connected.mono_l : ∀ k, (∀ y0 y1 y2 y3, LeO (spec_l07Connected.l0 k y0 y1 y2 y3) (spec_l07Connected.l0 (k + 1) y0 y1 y2 y3)) ∧ (∀ y0 y1 y2 y3 y4 y5, LeO (spec_l07Connected.l1 k y0 y1 y2 y3 y4 y5) (spec_l07Connected.l1 (k + 1) y0 y1 y2 y3 y4 y5))
  | 0 => ⟨fun _ _ _ _ r h => by simp [spec_l07Connected.l0] at h, fun _ _ _ _ _ _ r h => by simp [spec_l07Connected.l1] at h⟩
  | k + 1 => by
    obtain ⟨ih0, ih1⟩ := spec_l07Connected.mono_l k
    refine ⟨?_, ?_⟩
    · intro y0 y1 y2 y3
      unfold spec_l07Connected.l0
      repeat' first
      | (with_reducible exact ih0 _ _ _ _)
      | (with_reducible exact ih1 _ _ _ _ _ _)
      | (with_reducible exact spec_l02Index.mono _ _ _ _)
      | (with_reducible exact LeO.refl _)
      | (with_reducible exact LeO.none _)
      | (with_reducible refine LeO.ite ?_ ?_)
      | (with_reducible refine LeO.bind ?_ (fun _ => ?_))
      | exact ih0 _ _ _ _
      | exact ih1 _ _ _ _ _ _
      | exact spec_l02Index.mono _ _ _ _
      | exact LeO.none _
      | refine LeO.ite ?_ ?_
      | refine LeO.bind ?_ (fun _ => ?_)
    · intro y0 y1 y2 y3 y4 y5
      unfold spec_l07Connected.l1
      repeat' first
      | (with_reducible exact ih0 _ _ _ _)
      | (with_reducible exact ih1 _ _ _ _ _ _)
      | (with_reducible exact spec_l02Index.mono _ _ _ _)
      | (with_reducible exact LeO.refl _)
      | (with_reducible exact LeO.none _)
      | (with_reducible refine LeO.ite ?_ ?_)
      | (with_reducible refine LeO.bind ?_ (fun _ => ?_))
      | exact ih0 _ _ _ _
      | exact ih1 _ _ _ _ _ _
      | exact spec_l02Index.mono _ _ _ _
      | exact LeO.none _
      | refine LeO.ite ?_ ?_
      | refine LeO.bind ?_ (fun _ => ?_)
theorem spec_l07Connected.mono : ∀ a0 a1 k, LeO (spec_l07Connected.f k a0 a1) (spec_l07Connected.f (k + 1) a0 a1) := by
  intro a0 a1 k
  obtain ⟨ih0, ih1⟩ := spec_l07Connected.mono_l k
  unfold spec_l07Connected.f
  repeat' first
      | (with_reducible exact ih0 _ _ _ _)
      | (with_reducible exact ih1 _ _ _ _ _ _)
      | (with_reducible exact spec_l02Index.mono _ _ _ _)
      | (with_reducible exact LeO.refl _)
      | (with_reducible exact LeO.none _)
      | (with_reducible refine LeO.ite ?_ ?_)
      | (with_reducible refine LeO.bind ?_ (fun _ => ?_))
      | exact ih0 _ _ _ _
      | exact ih1 _ _ _ _ _ _
      | exact spec_l02Index.mono _ _ _ _
      | exact LeO.none _
      | refine LeO.ite ?_ ?_
      | refine LeO.bind ?_ (fun _ => ?_)
set_option maxHeartbeats 8000000 in
set_option maxRecDepth 100000 in
theorem spec_l07Connected.calls (k : Nat) (a0 : Int) (A1 : Option Addr) (c1 : Nat) (l1 : List (S27)) (r : Bool) (w : World) (hr1 : Kd.C k27 w A1 l1.length l1) (hc1 : l1.length ≤ c1) (h : spec_l07Connected.f k a0 l1 = some r) :
    Calls Try.prog 64 #[.int .i64 a0, .slice A1 l1.length c1] w fun e w' => e = .returned (.bool r) ∧ Below w.heap.size w w' := by
  have hu27 := Try.underlying27
  have HR1 := Aside0.mk hr1
  have HC1 := Aside0.mk hc1
  clear hr1 hc1
  have HB := Aside0.mk (Below.refl w.heap.size w)
  have H : (if 0 < (l1.length : Int) then (spec_l07Connected.l0 k a0 l1 (([(⟨(rd_T27 l1 0).f0, (rd_T27 l1 0).f1⟩ : S27)] : List (S27))) 0) else (none)) = some r := h
  clear h
  by_cases c3 : 0 < (l1.length : Int)
  · rw [if_pos c3] at H
    have c3b0 : decide (0 < (l1.length : Int)) = true := decide_eq_true c3
    have c3b1 : decide (0 < l1.length) = true := decide_eq_true (by omega)
    clear c3
    obtain ⟨y215, hy215⟩ : ∃ y_ : List (S27), y_ = (([(⟨(rd_T27 l1 0).f0, (rd_T27 l1 0).f1⟩ : S27)] : List (S27))) := ⟨_, rfl⟩
    replace H : (spec_l07Connected.l0 k a0 l1 y215 0) = some r := by first | (rw [hy215]; with_reducible exact H) | (have H2_ := (Option.bind_some _ _).symm.trans H; rw [hy215]; with_reducible exact H2_) | (have H2_ := (Option.bind_some _ _).symm.trans H; with_reducible exact H2_) | with_reducible exact H | (rw [hy215]; exact H) | exact H
    have Ny215 := Aside0.mk hy215
    clear hy215
    have H' := Aside0.mk H
    clear H
    have p214 : 0 ≤ (0 : Int) := (by omega)
    have q214 : 0 < (l1.length : Int) := of_decide_eq_true (by first | (with_reducible assumption) | assumption)
    obtain ⟨ad214, e214, hx214_0, hx214_1⟩ := at_T27 HR1.out 0 p214 q214
    cases e214
    have qi214 : (0 < l1.length) = True := eq_true (by omega)
    (try rw [show ((0 : Int)).toNat = 0 from rfl] at hx214_0)
    (try rw [show 0 * 2 = 0 from rfl] at hx214_0)
    (try rw [Addr.add_zero'] at hx214_0)
    (try rw [show ((0 : Int)).toNat = 0 from rfl] at hx214_1)
    (try rw [show 0 * 2 = 0 from rfl] at hx214_1)
    (try rw [Addr.add_zero'] at hx214_1)
    replace p214 := eq_true p214
    replace q214 := eq_true q214
    go_enter Try.func64, Try.ntmps64
    go_wp2_with (first | ((with_reducible refine gate_dst (N := 12) rfl ?_); refine Kd.R_lit k27 _ 27 ?hg (N := 12) ?hd (xs := ([(⟨(rd_T27 l1 0).f0, (rd_T27 l1 0).f1⟩ : S27)] : List (S27))) (inner := [.int .i64 ((rd_T27 l1 0).f0), .int .i64 ((rd_T27 l1 0).f1)]) (ok := fun _ => True) (okp := fun _ => True) ?hr ?hp (fun _ hk => hk) trivial (Below.refl _ _) (Nat.le_refl _) (by simp) ?_; (case hd => rfl); (case hg => rfl); (case hr => first | (go_simp; done) | (go_simp; rfl)); (case hp => exact (Reps.c2 (show Kd.M k27 _ _ _ (⟨(rd_T27 l1 0).f0, (rd_T27 l1 0).f1⟩ : S27) [.int .i64 ((rd_T27 l1 0).f0), .int .i64 ((rd_T27 l1 0).f1)] from (k27_mkM _ _ _ (⟨(rd_T27 l1 0).f0, (rd_T27 l1 0).f1⟩ : S27) )) (Reps.none _ _))); intro v216 w4 ho5 hb hg_ hnew_; clear hg_ hnew_; (first | rw [← Ny215.out] at ho5 | (simp only [Int.reduceToNat] at ho5; rw [← Ny215.out] at ho5)); have n0_ := Aside0.mk (Kd.R_lower ho5 (below_size (by repeat (first | (with_reducible first | exact HB.out | apply below_alloc | apply pw_below_drewN | apply below_drew1) | exact HB.out)))); have n1_ := Aside0.mk (below_step (by repeat (first | (with_reducible first | exact HB.out | apply below_alloc | apply pw_below_drewN | apply below_drew1) | exact HB.out)) hb); clear HB; have HO217 := n0_; have HB := n1_; clear n0_ n1_; clear hb ho5))
    go_loopg [5, 6] k (fun kq v5 v6 w' => ∃ (x5_1 : List (S27)) (x6_1 : Int), v6 = .int .i64 x6_1 ∧ Aside0 (spec_l07Connected.l0 kq a0 l1 x5_1 x6_1 = some r) ∧ Aside0 (kq ≤ k) ∧ Aside0 (Kd.R k27 27 w' w.heap.size (fun _ => True) v5 x5_1) ∧ Aside0 (Below w.heap.size w w'))
    case atStart => exact ⟨(y215), (0), (by first | rfl | (simp; done) | (simp [*]; done)), H', ⟨Nat.le_refl _⟩, ⟨by (with_reducible repeat (first | apply Kd.R_alloc | apply Kd.R_drewN | apply Kd.R_drew)); exact HO217.out⟩, ⟨by repeat (first | (with_reducible first | exact HB.out | apply below_alloc | apply pw_below_drewN | apply below_drew1) | exact HB.out)⟩⟩
    case round =>
      clear H'
      try clear c1
      try clear c2
      try clear p2
      try clear q2
      try clear hx2
      try clear qi2
      try clear c3
      try clear c3b0
      try clear c3b1
      try clear hx214_0
      try clear hx214_1
      try clear p214
      try clear q214
      obtain ⟨x5_1, x6_1, rfl, HA, HK1, HO_5, HB⟩ := hrel
      cases gk with
      | zero => exact absurd HA.out (by simp [spec_l07Connected.l0])
      | succ k1 =>
        have H := HA.out
        clear HA
        simp only [spec_l07Connected.l0] at H
        by_cases c6 : x6_1 < (x5_1.length : Int)
        · rw [if_pos c6] at H
          have c6b0 : decide (x6_1 < (x5_1.length : Int)) = true := decide_eq_true c6
          clear c6
          by_cases c7 : 0 ≤ x6_1
          · rw [if_pos c7] at H
            have c7b0 : decide (0 ≤ x6_1) = true := decide_eq_true c7
            clear c7
            replace H := Option.bind_eq_some_iff.mp H
            obtain ⟨t219, A80, H⟩ := H
            replace H : (spec_l07Connected.l1 k1 a0 l1 x5_1 x6_1 t219 0) = some r := H
            have A8 := Aside0.mk A80
            clear A80
            have H' := Aside0.mk H
            clear H
            obtain ⟨Ao9, co9, eo9⟩ := Kd.R_slice HO_5.out
            subst eo9
            have p218 : 0 ≤ (x6_1 : Int) := of_decide_eq_true (by first | (with_reducible assumption) | assumption)
            have q218 : x6_1 < (x5_1.length : Int) := of_decide_eq_true (by first | (with_reducible assumption) | assumption)
            obtain ⟨ad218, e218, hx218_0, hx218_1⟩ := at_T27 (Kd.R_reads' HO_5.out).2.2 x6_1 p218 q218
            cases e218
            replace p218 := eq_true p218
            replace q218 := eq_true q218
            go_wp2_with (first | ((with_reducible refine gate_callee (f := 59) rfl ?_); refine goesL_ (some 24) rfl rfl Try.func59 (by kernel_rfl) rfl #[.int .i64 a0, .agg #[.int .i64 ((rd_T27 x5_1 x6_1).f0), .int .i64 ((rd_T27 x5_1 x6_1).f1)]] rfl (by (try simp only [List.map_toArray, List.map_cons, List.map_nil]); first | done | rfl | (simp only [List.length_drop, List.length_take]; rfl)) ?_; (with_reducible refine (spec_l07Around.calls a0 ((rd_T27 x5_1 x6_1).f0) ((rd_T27 x5_1 x6_1).f1) t219 _ A8.out).mono ?_); rintro e w10 ⟨v220, rfl, ho0, hb⟩; refine ⟨_, rfl, ?_⟩; have n0_ := Aside0.mk (Kd.R_elder' (by (with_reducible repeat (first | apply Kd.R_alloc | apply Kd.R_drewN | apply Kd.R_drew)); exact HO_5.out) (Kd.R_base ho0) hb); have n1_ := Aside0.mk (Kd.R_lower (Kd.R_new' ho0 (Kd.R_lt (by (with_reducible repeat (first | apply Kd.R_alloc | apply Kd.R_drewN | apply Kd.R_drew)); exact HO_5.out))) (below_size (by repeat (first | (with_reducible first | exact HB.out | apply below_alloc | apply pw_below_drewN | apply below_drew1) | exact HB.out)))); have n2_ := Aside0.mk (below_step (by repeat (first | (with_reducible first | exact HB.out | apply below_alloc | apply pw_below_drewN | apply below_drew1) | exact HB.out)) hb); clear HO_5; clear HB; have HO_5 := n0_; have HO221 := n1_; have HB := n2_; clear n0_ n1_ n2_; (try clear hb); (try clear hb2); (try clear hk); (try clear hi); (try clear ho0)))
            go_loopg [5, 8] k1 (fun kq v5 v8 w' => ∃ (x5_2 : List (S27)) (x8_2 : Int), v8 = .int .i64 x8_2 ∧ Aside0 (spec_l07Connected.l1 kq a0 l1 x5_2 x6_1 t219 x8_2 = some r) ∧ Aside0 (kq ≤ k1) ∧ Aside0 (Kd.R k27 27 w' w.heap.size (fun k_ => some k_ ≠ (v220 : Value).ownBlock) v5 x5_2) ∧ Aside0 (Kd.R k27 27 w' w.heap.size (fun k_ => some k_ ≠ (v5 : Value).ownBlock) v220 t219) ∧ Aside0 (Below w.heap.size w w'))
            case atStart => exact ⟨(x5_1), (0), (by first | rfl | (simp; done) | (simp [*]; done)), H', ⟨Nat.le_refl _⟩, ⟨by (with_reducible repeat (first | apply Kd.R_alloc | apply Kd.R_drewN | apply Kd.R_drew)); exact Kd.R_mono HO_5.out (fun _ hk => hk.2)⟩, ⟨by (with_reducible repeat (first | apply Kd.R_alloc | apply Kd.R_drewN | apply Kd.R_drew)); exact Kd.R_mono HO221.out (fun _ hk => hk.2)⟩, ⟨by repeat (first | (with_reducible first | exact HB.out | apply below_alloc | apply pw_below_drewN | apply below_drew1) | exact HB.out)⟩⟩
            case round =>
              clear H'
              try clear c1
              try clear c2
              try clear p2
              try clear q2
              try clear hx2
              try clear qi2
              try clear c3
              try clear c3b0
              try clear c3b1
              try clear c5
              try clear c6
              try clear c6b0
              try clear c7
              try clear c7b0
              try clear hx214_0
              try clear hx214_1
              try clear hx218_0
              try clear hx218_1
              try clear p2
              try clear p214
              try clear p218
              try clear q2
              try clear q214
              try clear q218
              obtain ⟨x5_2, x8_2, rfl, HA, HK2, HO_5, HO_7, HB⟩ := hrel
              cases gk with
              | zero => exact absurd HA.out (by simp [spec_l07Connected.l1])
              | succ k2 =>
                have H := HA.out
                clear HA
                simp only [spec_l07Connected.l1] at H
                by_cases c11 : x8_2 < (t219.length : Int)
                · rw [if_pos c11] at H
                  have c11b0 : decide (x8_2 < (t219.length : Int)) = true := decide_eq_true c11
                  clear c11
                  by_cases c12 : 0 ≤ x8_2
                  · rw [if_pos c12] at H
                    have c12b0 : decide (0 ≤ x8_2) = true := decide_eq_true c12
                    clear c12
                    replace H := Option.bind_eq_some_iff.mp H
                    obtain ⟨t223, A130, H⟩ := H
                    replace H : (if t223 ≥ 0 then ((spec_l02Index.f k2 x5_2 ((rd_T27 t219 x8_2).f0) ((rd_T27 t219 x8_2).f1)).bind fun t225 => (if t225 < 0 then (if x5_2.length < 8796093022208 then (spec_l07Connected.l1 k2 a0 l1 (x5_2 ++ [(⟨(rd_T27 t219 x8_2).f0, (rd_T27 t219 x8_2).f1⟩ : S27)]) x6_1 t219 (wrap64 (x8_2 + 1))) else (none)) else (spec_l07Connected.l1 k2 a0 l1 x5_2 x6_1 t219 (wrap64 (x8_2 + 1))))) else (spec_l07Connected.l1 k2 a0 l1 x5_2 x6_1 t219 (wrap64 (x8_2 + 1)))) = some r := H
                    have A13 := Aside0.mk A130
                    clear A130
                    by_cases c14 : t223 ≥ 0
                    · rw [if_pos c14] at H
                      have c14b0 : decide (0 ≤ t223) = true := decide_eq_true c14
                      clear c14
                      replace H := Option.bind_eq_some_iff.mp H
                      obtain ⟨t225, A150, H⟩ := H
                      replace H : (if t225 < 0 then (if x5_2.length < 8796093022208 then (spec_l07Connected.l1 k2 a0 l1 (x5_2 ++ [(⟨(rd_T27 t219 x8_2).f0, (rd_T27 t219 x8_2).f1⟩ : S27)]) x6_1 t219 (wrap64 (x8_2 + 1))) else (none)) else (spec_l07Connected.l1 k2 a0 l1 x5_2 x6_1 t219 (wrap64 (x8_2 + 1)))) = some r := H
                      have A15 := Aside0.mk A150
                      clear A150
                      by_cases c16 : t225 < 0
                      · rw [if_pos c16] at H
                        have c16b0 : decide (t225 < 0) = true := decide_eq_true c16
                        clear c16
                        by_cases c17 : x5_2.length < 8796093022208
                        · rw [if_pos c17] at H
                          have LMc17 := Aside0.mk c17
                          clear c17
                          obtain ⟨y227, hy227⟩ : ∃ y_ : List (S27), y_ = (x5_2 ++ [(⟨(rd_T27 t219 x8_2).f0, (rd_T27 t219 x8_2).f1⟩ : S27)]) := ⟨_, rfl⟩
                          replace H : (spec_l07Connected.l1 k2 a0 l1 y227 x6_1 t219 (wrap64 (x8_2 + 1))) = some r := by first | (rw [hy227]; with_reducible exact H) | (have H2_ := (Option.bind_some _ _).symm.trans H; rw [hy227]; with_reducible exact H2_) | (have H2_ := (Option.bind_some _ _).symm.trans H; with_reducible exact H2_) | with_reducible exact H | (rw [hy227]; exact H) | exact H
                          have Ny227 := Aside0.mk hy227
                          clear hy227
                          have H' := Aside0.mk H
                          clear H
                          obtain ⟨Ao18, co18, eo18⟩ := Kd.R_slice HO_7.out
                          subst eo18
                          have p222 : 0 ≤ (x8_2 : Int) := of_decide_eq_true (by first | (with_reducible assumption) | assumption)
                          have q222 : x8_2 < (t219.length : Int) := of_decide_eq_true (by first | (with_reducible assumption) | assumption)
                          obtain ⟨ad222, e222, hx222_0, hx222_1⟩ := at_T27 (Kd.R_reads' HO_7.out).2.2 x8_2 p222 q222
                          cases e222
                          replace p222 := eq_true p222
                          replace q222 := eq_true q222
                          go_wp2_with (first | ((with_reducible refine gate_callee (f := 94) rfl ?_); refine goesL_ (some 36) rfl rfl Try.func94 (by kernel_rfl) rfl #[.slice (some ad214) l1.length c1, .agg #[.int .i64 ((rd_T27 t219 x8_2).f0), .int .i64 ((rd_T27 t219 x8_2).f1)]] rfl (by (try simp only [List.map_toArray, List.map_cons, List.map_nil]); first | done | rfl | (simp only [List.length_drop, List.length_take]; rfl)) ?_; (with_reducible refine (spec_l02Index.calls k2 _ _ l1 ((rd_T27 t219 x8_2).f0) ((rd_T27 t219 x8_2).f1) t223 _ ?side1 ?side2 A13.out).mono ?_); (case side1 => repeat (first | exact (Kd.C_below HR1.out HB.out) | (with_reducible refine Kd.C_alloc ?_ _) | (with_reducible refine Kd.C_drewN ?_ _) | (with_reducible refine Kd.C_drew ?_))); (case side2 => exact HC1.out); rintro e w19 ⟨rfl, hb⟩; refine ⟨_, rfl, ?_⟩; have n0_ := Aside0.mk (Kd.R_below (by (with_reducible repeat (first | apply Kd.R_alloc | apply Kd.R_drewN | apply Kd.R_drew)); exact HO_5.out) hb); have n1_ := Aside0.mk (Kd.R_below (by (with_reducible repeat (first | apply Kd.R_alloc | apply Kd.R_drewN | apply Kd.R_drew)); exact HO_7.out) hb); have n2_ := Aside0.mk (below_step (by repeat (first | (with_reducible first | exact HB.out | apply below_alloc | apply pw_below_drewN | apply below_drew1) | exact HB.out)) hb); clear HO_5; clear HO_7; clear HB; have HO_5 := n0_; have HO_7 := n1_; have HB := n2_; clear n0_ n1_ n2_; (try clear hb); (try clear hb2); (try clear hk); (try clear hi); have p224 : 0 ≤ (x8_2 : Int) := of_decide_eq_true (by first | (with_reducible assumption) | assumption); have q224 : x8_2 < (t219.length : Int) := of_decide_eq_true (by first | (with_reducible assumption) | assumption); obtain ⟨ad224, e224, hx224_0, hx224_1⟩ := at_T27 (Kd.R_reads' HO_7.out).2.2 x8_2 p224 q224; obtain rfl : ad222 = ad224 := (by injection e224); replace p224 := eq_true p224; replace q224 := eq_true q224; obtain ⟨Ao20, co20, eo20⟩ := Kd.R_slice HO_5.out; subst eo20) | (go_at_call 94; (with_reducible refine (spec_l02Index.calls k2 _ _ x5_2 ((rd_T27 t219 x8_2).f0) ((rd_T27 t219 x8_2).f1) t225 _ ?side1 ?side2 A15.out).mono ?_); (case side1 => repeat (first | exact (Kd.R_reads' HO_5.out).2.2 | (with_reducible refine Kd.C_alloc ?_ _) | (with_reducible refine Kd.C_drewN ?_ _) | (with_reducible refine Kd.C_drew ?_))); (case side2 => exact (Kd.R_reads' HO_5.out).2.1); rintro e w21 ⟨rfl, hb⟩; have n0_ := Aside0.mk (Kd.R_below (by (with_reducible repeat (first | apply Kd.R_alloc | apply Kd.R_drewN | apply Kd.R_drew)); exact HO_5.out) hb); have n1_ := Aside0.mk (Kd.R_below (by (with_reducible repeat (first | apply Kd.R_alloc | apply Kd.R_drewN | apply Kd.R_drew)); exact HO_7.out) hb); have n2_ := Aside0.mk (below_step (by repeat (first | (with_reducible first | exact HB.out | apply below_alloc | apply pw_below_drewN | apply below_drew1) | exact HB.out)) hb); clear HO_5; clear HO_7; clear HB; have HO_5 := n0_; have HO_7 := n1_; have HB := n2_; clear n0_ n1_ n2_; (try clear hb); (try clear hb2); (try clear hk); (try clear hi); have p226 : 0 ≤ (x8_2 : Int) := of_decide_eq_true (by first | (with_reducible assumption) | assumption); have q226 : x8_2 < (t219.length : Int) := of_decide_eq_true (by first | (with_reducible assumption) | assumption); obtain ⟨ad226, e226, hx226_0, hx226_1⟩ := at_T27 (Kd.R_reads' HO_7.out).2.2 x8_2 p226 q226; obtain rfl : ad222 = ad226 := (by injection e226); replace p226 := eq_true p226; replace q226 := eq_true q226) | ((with_reducible refine gate_builtin (b := .append) (xs := #[.tmp 47, .tmp 52]) rfl ?_); at_builtin; refine Kd.R_append k27 (w0 := w) w.heap.size rfl (.tmp 47) (.tmp 52) 24 27 (.agg #[(.int .i64 0), (.int .i64 0)]) 16 rfl Try.underlying24 info27 rfl (by decide) (by omega) (.slice Ao20 x5_2.length co20) x5_2 (⟨(rd_T27 t219 x8_2).f0, (rd_T27 t219 x8_2).f1⟩ : S27) [.int .i64 ((rd_T27 t219 x8_2).f0), .int .i64 ((rd_T27 t219 x8_2).f1)] (fun k_ => some k_ ≠ (.slice (some ad222) t219.length co18 : Value).ownBlock) (fun _ => False) rfl rfl ?aP (fun _ hk => hk.elim) ?aF ?aO ?aB ?aS ?aL ?_; (case aP => exact k27_mkM _ _ _ (⟨(rd_T27 t219 x8_2).f0, (rd_T27 t219 x8_2).f1⟩ : S27)); (case aB => exact (by repeat (first | (with_reducible first | exact HB.out | apply below_alloc | apply pw_below_drewN | apply below_drew1) | exact HB.out))); (case aF => exact (fun k_ hk => Kd.fresh' (Kd.R_lt (by (with_reducible repeat (first | apply Kd.R_alloc | apply Kd.R_drewN | apply Kd.R_drew)); exact HO_7.out)) k_ hk)); (case aO => exact (by (with_reducible repeat (first | apply Kd.R_alloc | apply Kd.R_drewN | apply Kd.R_drew)); exact HO_5.out)); (case aS => exact (below_size (by repeat (first | (with_reducible first | exact HB.out | apply below_alloc | apply pw_below_drewN | apply below_drew1) | exact HB.out)))); (case aL => have := LMc17.out; omega); intro v228 w22 ho hb hg hat; rw [← Ny227.out] at ho; have n0_ := Aside0.mk (Kd.R_after (ok := (fun _ => True)) (by (with_reducible repeat (first | apply Kd.R_alloc | apply Kd.R_drewN | apply Kd.R_drew)); exact Kd.R_mono HO_7.out (fun _ hk => ⟨trivial, hk⟩)) hg hat); have n1_ := Aside0.mk (hb); have n2_ := Aside0.mk (ho); clear HO_7; clear HB; clear HO_5; have HO_7 := n0_; have HB := n1_; have HO229 := n2_; clear n0_ n1_ n2_; clear ho hb hg hat))
                          go_roundg k2
                          case measure => have := HK1.out; have := HK2.out; omega
                          case rel => exact ⟨(y227), (wrap64 (x8_2 + 1)), (by first | rfl | (simp; done) | (simp [*]; done)), H', ⟨by have := HK1.out; have := HK2.out; omega⟩, ⟨by (with_reducible repeat (first | apply Kd.R_alloc | apply Kd.R_drewN | apply Kd.R_drew)); exact HO229.out⟩, ⟨by (with_reducible repeat (first | apply Kd.R_alloc | apply Kd.R_drewN | apply Kd.R_drew)); exact Kd.R_mono HO_7.out (fun _ hk => hk.2)⟩, ⟨by repeat (first | (with_reducible first | exact HB.out | apply below_alloc | apply pw_below_drewN | apply below_drew1) | exact HB.out)⟩⟩
                        · rw [if_neg c17] at H
                          exact absurd H (by simp)
                      · rw [if_neg c16] at H
                        have c16b0 : decide (t225 < 0) = false := decide_eq_false c16
                        clear c16
                        have H' := Aside0.mk H
                        clear H
                        obtain ⟨Ao23, co23, eo23⟩ := Kd.R_slice HO_7.out
                        subst eo23
                        have p222 : 0 ≤ (x8_2 : Int) := of_decide_eq_true (by first | (with_reducible assumption) | assumption)
                        have q222 : x8_2 < (t219.length : Int) := of_decide_eq_true (by first | (with_reducible assumption) | assumption)
                        obtain ⟨ad222, e222, hx222_0, hx222_1⟩ := at_T27 (Kd.R_reads' HO_7.out).2.2 x8_2 p222 q222
                        cases e222
                        replace p222 := eq_true p222
                        replace q222 := eq_true q222
                        go_wp2_with (first | ((with_reducible refine gate_callee (f := 94) rfl ?_); refine goesL_ (some 36) rfl rfl Try.func94 (by kernel_rfl) rfl #[.slice (some ad214) l1.length c1, .agg #[.int .i64 ((rd_T27 t219 x8_2).f0), .int .i64 ((rd_T27 t219 x8_2).f1)]] rfl (by (try simp only [List.map_toArray, List.map_cons, List.map_nil]); first | done | rfl | (simp only [List.length_drop, List.length_take]; rfl)) ?_; (with_reducible refine (spec_l02Index.calls k2 _ _ l1 ((rd_T27 t219 x8_2).f0) ((rd_T27 t219 x8_2).f1) t223 _ ?side1 ?side2 A13.out).mono ?_); (case side1 => repeat (first | exact (Kd.C_below HR1.out HB.out) | (with_reducible refine Kd.C_alloc ?_ _) | (with_reducible refine Kd.C_drewN ?_ _) | (with_reducible refine Kd.C_drew ?_))); (case side2 => exact HC1.out); rintro e w24 ⟨rfl, hb⟩; refine ⟨_, rfl, ?_⟩; have n0_ := Aside0.mk (Kd.R_below (by (with_reducible repeat (first | apply Kd.R_alloc | apply Kd.R_drewN | apply Kd.R_drew)); exact HO_5.out) hb); have n1_ := Aside0.mk (Kd.R_below (by (with_reducible repeat (first | apply Kd.R_alloc | apply Kd.R_drewN | apply Kd.R_drew)); exact HO_7.out) hb); have n2_ := Aside0.mk (below_step (by repeat (first | (with_reducible first | exact HB.out | apply below_alloc | apply pw_below_drewN | apply below_drew1) | exact HB.out)) hb); clear HO_5; clear HO_7; clear HB; have HO_5 := n0_; have HO_7 := n1_; have HB := n2_; clear n0_ n1_ n2_; (try clear hb); (try clear hb2); (try clear hk); (try clear hi); have p224 : 0 ≤ (x8_2 : Int) := of_decide_eq_true (by first | (with_reducible assumption) | assumption); have q224 : x8_2 < (t219.length : Int) := of_decide_eq_true (by first | (with_reducible assumption) | assumption); obtain ⟨ad224, e224, hx224_0, hx224_1⟩ := at_T27 (Kd.R_reads' HO_7.out).2.2 x8_2 p224 q224; obtain rfl : ad222 = ad224 := (by injection e224); replace p224 := eq_true p224; replace q224 := eq_true q224; obtain ⟨Ao25, co25, eo25⟩ := Kd.R_slice HO_5.out; subst eo25) | (go_at_call 94; (with_reducible refine (spec_l02Index.calls k2 _ _ x5_2 ((rd_T27 t219 x8_2).f0) ((rd_T27 t219 x8_2).f1) t225 _ ?side1 ?side2 A15.out).mono ?_); (case side1 => repeat (first | exact (Kd.R_reads' HO_5.out).2.2 | (with_reducible refine Kd.C_alloc ?_ _) | (with_reducible refine Kd.C_drewN ?_ _) | (with_reducible refine Kd.C_drew ?_))); (case side2 => exact (Kd.R_reads' HO_5.out).2.1); rintro e w26 ⟨rfl, hb⟩; have n0_ := Aside0.mk (Kd.R_below (by (with_reducible repeat (first | apply Kd.R_alloc | apply Kd.R_drewN | apply Kd.R_drew)); exact HO_5.out) hb); have n1_ := Aside0.mk (Kd.R_below (by (with_reducible repeat (first | apply Kd.R_alloc | apply Kd.R_drewN | apply Kd.R_drew)); exact HO_7.out) hb); have n2_ := Aside0.mk (below_step (by repeat (first | (with_reducible first | exact HB.out | apply below_alloc | apply pw_below_drewN | apply below_drew1) | exact HB.out)) hb); clear HO_5; clear HO_7; clear HB; have HO_5 := n0_; have HO_7 := n1_; have HB := n2_; clear n0_ n1_ n2_; (try clear hb); (try clear hb2); (try clear hk); (try clear hi)))
                        go_roundg k2
                        case measure => have := HK1.out; have := HK2.out; omega
                        case rel => exact ⟨(x5_2), (wrap64 (x8_2 + 1)), (by first | rfl | (simp; done) | (simp [*]; done)), H', ⟨by have := HK1.out; have := HK2.out; omega⟩, ⟨by (with_reducible repeat (first | apply Kd.R_alloc | apply Kd.R_drewN | apply Kd.R_drew)); exact HO_5.out⟩, ⟨by (with_reducible repeat (first | apply Kd.R_alloc | apply Kd.R_drewN | apply Kd.R_drew)); exact HO_7.out⟩, ⟨by repeat (first | (with_reducible first | exact HB.out | apply below_alloc | apply pw_below_drewN | apply below_drew1) | exact HB.out)⟩⟩
                    · rw [if_neg c14] at H
                      have c14b0 : decide (0 ≤ t223) = false := decide_eq_false c14
                      clear c14
                      have H' := Aside0.mk H
                      clear H
                      obtain ⟨Ao27, co27, eo27⟩ := Kd.R_slice HO_7.out
                      subst eo27
                      have p222 : 0 ≤ (x8_2 : Int) := of_decide_eq_true (by first | (with_reducible assumption) | assumption)
                      have q222 : x8_2 < (t219.length : Int) := of_decide_eq_true (by first | (with_reducible assumption) | assumption)
                      obtain ⟨ad222, e222, hx222_0, hx222_1⟩ := at_T27 (Kd.R_reads' HO_7.out).2.2 x8_2 p222 q222
                      cases e222
                      replace p222 := eq_true p222
                      replace q222 := eq_true q222
                      go_wp2_with (first | ((with_reducible refine gate_callee (f := 94) rfl ?_); refine goesL_ (some 36) rfl rfl Try.func94 (by kernel_rfl) rfl #[.slice (some ad214) l1.length c1, .agg #[.int .i64 ((rd_T27 t219 x8_2).f0), .int .i64 ((rd_T27 t219 x8_2).f1)]] rfl (by (try simp only [List.map_toArray, List.map_cons, List.map_nil]); first | done | rfl | (simp only [List.length_drop, List.length_take]; rfl)) ?_; (with_reducible refine (spec_l02Index.calls k2 _ _ l1 ((rd_T27 t219 x8_2).f0) ((rd_T27 t219 x8_2).f1) t223 _ ?side1 ?side2 A13.out).mono ?_); (case side1 => repeat (first | exact (Kd.C_below HR1.out HB.out) | (with_reducible refine Kd.C_alloc ?_ _) | (with_reducible refine Kd.C_drewN ?_ _) | (with_reducible refine Kd.C_drew ?_))); (case side2 => exact HC1.out); rintro e w28 ⟨rfl, hb⟩; refine ⟨_, rfl, ?_⟩; have n0_ := Aside0.mk (Kd.R_below (by (with_reducible repeat (first | apply Kd.R_alloc | apply Kd.R_drewN | apply Kd.R_drew)); exact HO_5.out) hb); have n1_ := Aside0.mk (Kd.R_below (by (with_reducible repeat (first | apply Kd.R_alloc | apply Kd.R_drewN | apply Kd.R_drew)); exact HO_7.out) hb); have n2_ := Aside0.mk (below_step (by repeat (first | (with_reducible first | exact HB.out | apply below_alloc | apply pw_below_drewN | apply below_drew1) | exact HB.out)) hb); clear HO_5; clear HO_7; clear HB; have HO_5 := n0_; have HO_7 := n1_; have HB := n2_; clear n0_ n1_ n2_; (try clear hb); (try clear hb2); (try clear hk); (try clear hi)))
                      go_roundg k2
                      case measure => have := HK1.out; have := HK2.out; omega
                      case rel => exact ⟨(x5_2), (wrap64 (x8_2 + 1)), (by first | rfl | (simp; done) | (simp [*]; done)), H', ⟨by have := HK1.out; have := HK2.out; omega⟩, ⟨by (with_reducible repeat (first | apply Kd.R_alloc | apply Kd.R_drewN | apply Kd.R_drew)); exact HO_5.out⟩, ⟨by (with_reducible repeat (first | apply Kd.R_alloc | apply Kd.R_drewN | apply Kd.R_drew)); exact HO_7.out⟩, ⟨by repeat (first | (with_reducible first | exact HB.out | apply below_alloc | apply pw_below_drewN | apply below_drew1) | exact HB.out)⟩⟩
                  · rw [if_neg c12] at H
                    exact absurd H (by simp)
                · rw [if_neg c11] at H
                  have c11b0 : decide (x8_2 < (t219.length : Int)) = false := decide_eq_false c11
                  clear c11
                  have H' := Aside0.mk H
                  clear H
                  obtain ⟨Ao29, co29, eo29⟩ := Kd.R_slice HO_7.out
                  subst eo29
                  go_wp2
                  go_roundg k2
                  case measure => have := HK1.out; have := HK2.out; omega
                  case rel => exact ⟨(x5_2), (wrap64 (x6_1 + 1)), (by first | rfl | (simp; done) | (simp [*]; done)), H', ⟨by have := HK1.out; have := HK2.out; omega⟩, ⟨by (with_reducible repeat (first | apply Kd.R_alloc | apply Kd.R_drewN | apply Kd.R_drew)); exact Kd.R_mono HO_5.out (fun _ hk => trivial)⟩, ⟨by repeat (first | (with_reducible first | exact HB.out | apply below_alloc | apply pw_below_drewN | apply below_drew1) | exact HB.out)⟩⟩
          · rw [if_neg c7] at H
            exact absurd H (by simp)
        · rw [if_neg c6] at H
          have c6b0 : decide (x6_1 < (x5_1.length : Int)) = false := decide_eq_false c6
          clear c6
          obtain rfl := Option.some.inj H
          obtain ⟨Ao30, co30, eo30⟩ := Kd.R_slice HO_5.out
          subst eo30
          go_wp2
          go_ret
          exact ⟨by first | rfl | (simp [errW_none, errW_some] <;> rfl) | (simp [*, errW_none, errW_some] <;> rfl), by repeat (first | (with_reducible first | exact HB.out | apply below_alloc | apply pw_below_drewN | apply below_drew1) | exact HB.out)⟩
  · rw [if_neg c3] at H
    exact absurd H (by simp)

/-! ### slices_Max_int64_int64: function 106 -/
def slices_Max_int64_int64.l0 : Nat → List Int → Int → Int → Option (Int)
  | 0, _, _, _ => none
  | k + 1, x0, x3, x4 => if x4 < (x0.length : Int) then (if 0 ≤ x4 then (slices_Max_int64_int64.l0 k x0 (mx x3 (rd x0 x4)) (wrap64 (x4 + 1))) else (none)) else (some x3)
def slices_Max_int64_int64.f (k : Nat) (l0 : List Int) : Option (Int) := if (l0.length : Int) < 1 then (none) else (if 0 < (l0.length : Int) then (slices_Max_int64_int64.l0 k l0 (rd l0 0) 1) else (none))
theorem slices_Max_int64_int64.mono_l : ∀ k, (∀ y0 y1 y2, LeO (slices_Max_int64_int64.l0 k y0 y1 y2) (slices_Max_int64_int64.l0 (k + 1) y0 y1 y2))
  | 0 => fun _ _ _ r h => by simp [slices_Max_int64_int64.l0] at h
  | k + 1 => by
    have ih0 := slices_Max_int64_int64.mono_l k
    · intro y0 y1 y2
      unfold slices_Max_int64_int64.l0
      repeat' first
      | (with_reducible exact ih0 _ _ _)
      | (with_reducible exact LeO.refl _)
      | (with_reducible exact LeO.none _)
      | (with_reducible refine LeO.ite ?_ ?_)
      | (with_reducible refine LeO.bind ?_ (fun _ => ?_))
      | exact ih0 _ _ _
      | exact LeO.none _
      | refine LeO.ite ?_ ?_
      | refine LeO.bind ?_ (fun _ => ?_)
theorem slices_Max_int64_int64.mono : ∀ a0 k, LeO (slices_Max_int64_int64.f k a0) (slices_Max_int64_int64.f (k + 1) a0) := by
  intro a0 k
  have ih0 := slices_Max_int64_int64.mono_l k
  unfold slices_Max_int64_int64.f
  repeat' first
      | (with_reducible exact ih0 _ _ _)
      | (with_reducible exact LeO.refl _)
      | (with_reducible exact LeO.none _)
      | (with_reducible refine LeO.ite ?_ ?_)
      | (with_reducible refine LeO.bind ?_ (fun _ => ?_))
      | exact ih0 _ _ _
      | exact LeO.none _
      | refine LeO.ite ?_ ?_
      | refine LeO.bind ?_ (fun _ => ?_)
set_option maxHeartbeats 8000000 in
set_option maxRecDepth 100000 in
theorem slices_Max_int64_int64.calls (k : Nat) (A0 : Option Addr) (c0 : Nat) (l0 : List Int) (r : Int) (w : World) (hr0 : Kd.C (Kd.int .i64) w A0 l0.length l0) (hc0 : l0.length ≤ c0) (h : slices_Max_int64_int64.f k l0 = some r) :
    Calls Try.prog 106 #[.slice A0 l0.length c0] w fun e w' => e = .returned (.int .i64 r) ∧ Below w.heap.size w w' := by
  have HR0 := Aside0.mk hr0
  have HC0 := Aside0.mk hc0
  clear hr0 hc0
  have HB := Aside0.mk (Below.refl w.heap.size w)
  have H : (if (l0.length : Int) < 1 then (none) else (if 0 < (l0.length : Int) then (slices_Max_int64_int64.l0 k l0 (rd l0 0) 1) else (none))) = some r := h
  clear h
  by_cases c2 : (l0.length : Int) < 1
  · rw [if_pos c2] at H
    exact absurd H (by simp)
  · rw [if_neg c2] at H
    have c2b0 : decide ((l0.length : Int) < 1) = false := decide_eq_false c2
    have c2b1 : decide (l0.length < 1) = false := decide_eq_false (by omega)
    clear c2
    by_cases c3 : 0 < (l0.length : Int)
    · rw [if_pos c3] at H
      have c3b0 : decide (0 < (l0.length : Int)) = true := decide_eq_true c3
      have c3b1 : decide (0 < l0.length) = true := decide_eq_true (by omega)
      clear c3
      have H' := Aside0.mk H
      clear H
      have p252 : 0 ≤ (0 : Int) := (by omega)
      have q252 : 0 < (l0.length : Int) := of_decide_eq_true (by first | (with_reducible assumption) | assumption)
      obtain ⟨ad252, e252, hx252_0⟩ := Kd.at_int HR0.out 0 p252 q252
      cases e252
      have qi252 : (0 < l0.length) = True := eq_true (by omega)
      (try rw [show ((0 : Int)).toNat = 0 from rfl] at hx252_0)
      (try rw [Addr.add_zero'] at hx252_0)
      replace p252 := eq_true p252
      replace q252 := eq_true q252
      go_enter Try.func106, Try.ntmps106
      go_wp2
      go_loopg [3, 4] k (fun kq v3 v4 w' => ∃ (x3_1 : Int) (x4_1 : Int), v3 = .int .i64 x3_1 ∧ v4 = .int .i64 x4_1 ∧ Aside0 (slices_Max_int64_int64.l0 kq l0 x3_1 x4_1 = some r) ∧ Aside0 (kq ≤ k) ∧ Aside0 (Below w.heap.size w w'))
      case atStart => exact ⟨(rd l0 0), (1), (by first | rfl | (simp; done) | (simp [*]; done)), (by first | rfl | (simp; done) | (simp [*]; done)), H', ⟨Nat.le_refl _⟩, ⟨by repeat (first | (with_reducible first | exact HB.out | apply below_alloc | apply pw_below_drewN | apply below_drew1) | exact HB.out)⟩⟩
      case round =>
        clear H'
        try clear c1
        try clear c2
        try clear c2b0
        try clear c2b1
        try clear p2
        try clear q2
        try clear hx2
        try clear qi2
        try clear c3
        try clear c3b0
        try clear c3b1
        try clear hx252_0
        try clear p252
        try clear q252
        obtain ⟨x3_1, x4_1, rfl, rfl, HA, HK1, HB⟩ := hrel
        cases gk with
        | zero => exact absurd HA.out (by simp [slices_Max_int64_int64.l0])
        | succ k1 =>
          have H := HA.out
          clear HA
          simp only [slices_Max_int64_int64.l0] at H
          by_cases c4 : x4_1 < (l0.length : Int)
          · rw [if_pos c4] at H
            have c4b0 : decide (x4_1 < (l0.length : Int)) = true := decide_eq_true c4
            clear c4
            by_cases c5 : 0 ≤ x4_1
            · rw [if_pos c5] at H
              have c5b0 : decide (0 ≤ x4_1) = true := decide_eq_true c5
              clear c5
              obtain ⟨ji6, hji6⟩ : ∃ j_ : Int, (mx x3_1 (rd l0 x4_1)) = j_ := ⟨_, rfl⟩
              replace H : (slices_Max_int64_int64.l0 k1 l0 ji6 (wrap64 (x4_1 + 1))) = some r := by first | (rw [hji6] at H; exact H) | (simp only [hji6] at H ⊢; exact H)
              have hji6_ : (if x3_1 < (rd l0 x4_1) then (rd l0 x4_1) else x3_1) = ji6 := hji6
              have H' := Aside0.mk H
              clear H
              have p253 : 0 ≤ (x4_1 : Int) := of_decide_eq_true (by first | (with_reducible assumption) | assumption)
              have q253 : x4_1 < (l0.length : Int) := of_decide_eq_true (by first | (with_reducible assumption) | assumption)
              obtain ⟨ad253, e253, hx253_0⟩ := Kd.at_int HR0.out x4_1 p253 q253
              obtain rfl : ad252 = ad253 := (by injection e253)
              replace hx253_0 := (HB.out.cell (World.block_lt_of_cell? w _ hx253_0)).trans hx253_0
              replace p253 := eq_true p253
              replace q253 := eq_true q253
              go_wp2
              go_roundg k1
              case measure => have := HK1.out; omega
              case rel => exact ⟨(ji6), (wrap64 (x4_1 + 1)), (by first | rfl | (simp; done) | (simp only [← hji6] <;> (first | rfl | simp)) | (simp [*]; done)), (by first | rfl | (simp; done) | (simp [*]; done)), H', ⟨by have := HK1.out; omega⟩, ⟨by repeat (first | (with_reducible first | exact HB.out | apply below_alloc | apply pw_below_drewN | apply below_drew1) | exact HB.out)⟩⟩
            · rw [if_neg c5] at H
              exact absurd H (by simp)
          · rw [if_neg c4] at H
            have c4b0 : decide (x4_1 < (l0.length : Int)) = false := decide_eq_false c4
            clear c4
            obtain rfl := Option.some.inj H
            go_wp2
            go_ret
            exact ⟨by first | rfl | (simp [errW_none, errW_some] <;> rfl) | (simp [*, errW_none, errW_some] <;> rfl), by repeat (first | (with_reducible first | exact HB.out | apply below_alloc | apply pw_below_drewN | apply below_drew1) | exact HB.out)⟩
    · rw [if_neg c3] at H
      exact absurd H (by simp)

/-! ### impl_partsLook: function 9000 -/
/-- Where a cell stands in a list: the last place. -/
def lastIdx : List S27 → S27 → Nat → Option Nat
  | [], _, _ => none
  | a :: r, c, i => match lastIdx r c (i + 1) with
    | some j => some j
    | none => if a.f0 = c.f0 ∧ a.f1 = c.f1 then some i else none
def wfC (c : S27) : Bool := (Lit.int .i64 c.f0).wf && (Lit.int .i64 c.f1).wf
def impl_partsLook.f (l0 : List (S27)) (a1_0 : Int) (a1_1 : Int) : Option (Int × Bool) :=
  if wfC ⟨a1_0, a1_1⟩ = true then some (match lastIdx l0 ⟨a1_0, a1_1⟩ 0 with | some j => ((j : Int), true) | none => (0, false)) else none
theorem lastIdx_snoc (c d : S27) : ∀ (l : List S27) (i : Nat), lastIdx (l ++ [c]) d i = if c.f0 = d.f0 ∧ c.f1 = d.f1 then some (i + l.length) else lastIdx l d i
  | [], i => by simp [lastIdx]
  | a :: r, i => by
    rw [List.cons_append, lastIdx, lastIdx_snoc c d r (i + 1)]
    by_cases h : c.f0 = d.f0 ∧ c.f1 = d.f1
    · simp only [h, and_self, if_true, List.length_cons]; congr 1; omega
    · simp only [h, if_false]; rw [lastIdx]
theorem lastIdx_lt (d : S27) : ∀ (l : List S27) (i j : Nat), lastIdx l d i = some j → i ≤ j ∧ j < i + l.length
  | [], i, j, h => by simp [lastIdx] at h
  | a :: r, i, j, h => by
    rw [lastIdx] at h
    cases e : lastIdx r d (i + 1) with
    | some q =>
      rw [e] at h
      have := lastIdx_lt d r (i + 1) q e
      simp at h
      rw [List.length_cons]; omega
    | none =>
      rw [e] at h
      simp only at h
      split at h
      · simp at h; rw [List.length_cons]; omega
      · simp at h
theorem laidOutP : laidOutB Try.prog = true := by kernel_rfl
theorem keyedC : Maps.Keyed Try.prog 27 := Maps.Keyed.of_law (deep_law_laid laidOutP (m := 4) (by omega) (of_decide_eq_true (by kernel_rfl)) (by kernel_rfl) (by kernel_rfl))
theorem keyTypeC : Try.prog.keyType 27 = true := by kernel_rfl
theorem cellsOfC : Try.prog.cellsOf 27 = 2 := by kernel_rfl
theorem cellsOfI : Try.prog.cellsOf 2 = 1 := by kernel_rfl
theorem typesSize : ∃ n, Try.prog.types.size = n + 1 := ⟨Try.prog.types.size - 1, by have : (0 < Try.prog.types.size) := of_decide_eq_true (by kernel_rfl); omega⟩
abbrev valC (c : S27) : Value := .agg #[.int .i64 c.f0, .int .i64 c.f1]
theorem keyC (c : S27) (h : wfC c = true) : ∃ kl, keyOf Try.prog 27 (valC c) = some kl := by
  unfold wfC at h
  rw [Bool.and_eq_true] at h
  obtain ⟨n, hn⟩ := typesSize
  unfold keyOf
  rw [Try.underlying27]
  have hf : (valC c).formed Try.prog 27 = true := by
    simp only [Value.formed, Try.underlying27, cellsOfC]; rfl
  simp only [keyTypeC, hf, Bool.and_self, if_true, hn]
  refine ⟨_, Option.map_eq_some_iff.2 ⟨[.int .i64 c.f0, .int .i64 c.f1], ?_, rfl⟩⟩
  simp [Program.keyLits, Try.underlying27, Try.underlying2, cellsOfC, cellsOfI, Value.cells, h.1, h.2]
theorem valC_inj {c d : S27} (h : valC c = valC d) : c.f0 = d.f0 ∧ c.f1 = d.f1 := by
  simpa [valC] using h
/-- The map holds the last place of each cell of the list. -/
def PM (w : World) (b : Nat) (l : List S27) : Prop :=
  ∃ (D : DataW Unit) (n : Nat), w.ownsMap Try.prog 27 (plainElem Try.prog 3) b n D ∧ n ≤ l.length ∧ Maps.IsMap D ∧
    ∀ (c : S27) (kl : Lit), keyOf Try.prog 27 (valC c) = some kl → Maps.has D kl = (lastIdx l c 0).isSome ∧ ∀ j : Nat, lastIdx l c 0 = some j → D.atKey kl (.lit (.int .i64 0)) = .lit (.int .i64 j)
section
variable {w w1 W : World} {b g : Nat} {l : List S27}
theorem pm_kept (h : PM w b l) {row : Option Nat} (hg : w.grownBy w1 row) (hne : some b ≠ row) : PM w1 b l := by
  obtain ⟨D, n, ho, r⟩ := h
  exact ⟨D, n, ho.kept hg hne, r⟩
theorem pm_lt (h : PM w b l) : b < w.heap.size := by
  obtain ⟨D, n, ho, r⟩ := h
  exact ho.lt
theorem pm_step (h : PM w b l) (hb : Below w.heap.size w w1) : PM w1 b l := pm_kept h (grown_of_below hb none) (by simp)
theorem pm_alloc (h : PM w b l) (o : Obj) : PM (w.alloc o) b l := pm_kept h (World.grownBy_alloc w o none) (by simp)
theorem pm_drewN (h : PM w b l) (n : Nat) : PM (w.drewN n) b l := pm_step h (pw_below_drewN (Below.refl _ _) n)
theorem pm_drew (h : PM w b l) : PM w.drew b l := pm_step h (below_drew1 (Below.refl _ _))
theorem pm_obj (h : PM w b l) : ∃ es clock, w.heap[b]? = some (.map es clock) := by
  obtain ⟨D, n, ⟨es, clock, hb, _⟩, r⟩ := h
  exact ⟨es, clock, hb⟩
theorem pm_neB (h : PM w b l) {cs : Array Value} {t : TypeId} {fr : Nat × Nat} (hg : w.heap[g]? = some (.cells cs t fr)) : b ≠ g := by
  obtain ⟨es, clock, hb⟩ := pm_obj h
  rintro rfl
  rw [hb] at hg
  simp at hg
theorem pm_farN (h : PM w b l) (hne : b ≠ g) {j : Nat} (u : Value) : PM (w.setCell ⟨g, j, none⟩ u) b l :=
  pm_kept (row := some g) h ⟨rfl, rfl, rfl, by simp, fun k _ hk => Below.heap_setCell _ _ _ k (fun e => hk (by rw [e]))⟩ (by simpa using hne)
theorem pm_row {α : Type} {d : Kd α} {e base : Nat} {ok : Nat → Prop} {v : Value} {xs : List α} (h : PM w b l) (hr : d.R e w base ok v xs) : some b ≠ v.ownBlock := by
  intro he
  obtain ⟨cells, hc⟩ := Kd.R_typed hr b he.symm
  exact pm_neB h hc rfl
theorem pm_append {α : Type} {d : Kd α} {e base : Nat} {ok : Nat → Prop} {v : Value} {xs : List α} (h : PM w b l) (hr : d.R e w base ok v xs) (hg : w.grownBy w1 v.ownBlock) : PM w1 b l := pm_kept h hg (pm_row h hr)
/-- A row stays where the map is written. -/
theorem R_map {α : Type} {d : Kd α} {e base : Nat} {ok : Nat → Prop} {v : Value} {xs : List α} (hr : d.R e w base ok v xs) (h : PM w b l) (hg : w.grownBy w1 (some b)) : d.R e w1 base ok v xs :=
  Kd.R_mono (Kd.R_move (Kd.R_bound hr) (fun k hk => hg.block k hk.2.2.1 (by
    obtain ⟨_, _, _, q, _, cells, hc⟩ := hk
    intro he
    injection he with he
    subst he
    exact pm_neB h hc rfl))) (fun _ hk => hk.1)
end
section
variable {rest : List Oper} {o : Oper} {a : Act} {ops : Array Oper} {Q : Exit → Act → World → Prop} {W : World} {b : Nat} {l : List S27}
theorem gate_map {t : TypeId} {m x v : Operand} (_ho : o.op = .mapUpdate t m x v) (h : wpList Try.prog ops Q (o :: rest) a W) : wpList Try.prog ops Q (o :: rest) a W := h
theorem pm_make (hgd : o.guard = none) (hop : o.op = .makeMap 107 none) (h : ∀ b w1, Below W.heap.size W w1 → W.heap.size ≤ b → PM w1 b [] → wpList Try.prog ops Q rest (a.put o.dst (.map (some b))) w1) : wpList Try.prog ops Q (o :: rest) a W := by
  refine Kd.event_run hgd (v := .map (some W.heap.size)) (w1 := W.alloc (.map #[] 0)) ?_ (h _ _ (below_alloc (Below.refl _ _) _) (Nat.le_refl _) ⟨.map [], 0, World.ownsMap_made _ _ _ _, Nat.le_refl _, Maps.isMap_empty, fun c kl _ => ⟨rfl, fun j hj => by simp [lastIdx] at hj⟩⟩)
  simp [execOp, hop, run_makeMap]
theorem pm_put (hgd : o.guard = none) (m x v : Operand) (hop : o.op = .mapUpdate 107 m x v) (hm : a.eval m = .map (some b)) (hM : PM W b l) (hl : l.length ≤ 35184372088832) (c : S27) (hx : a.eval x = valC c) (hv : a.eval v = .int .i64 (l.length : Int)) (hc : wfC c = true)
    (h : ∀ w1, W.grownBy w1 (some b) → PM w1 b (l ++ [c]) → wpList Try.prog ops Q rest (a.put o.dst undef) w1) : wpList Try.prog ops Q (o :: rest) a W := by
  obtain ⟨D, n, ho, hn, hI, hD⟩ := hM
  obtain ⟨kl, hk⟩ := keyC c hc
  have hw : (Lit.int .i64 (l.length : Int)).wf = true := by
    simp only [Lit.wf, IntKind.min, IntKind.max, IntKind.signed, IntKind.bits, Bool.and_eq_true, decide_eq_true_eq, if_true]; omega
  refine wpList_mapUpdate_own W hgd m x v 107 hop 27 3 keyedC Try.underlying107 (plainElem Try.prog 3) b n D hm ho (by simp only [maxLen]; omega) _ _ kl hx hv hk _ [] (plainElem_int Try.underlying3 hw) ?_
  intro w1 ho1 hg
  refine h w1 hg ⟨_, _, ho1, by simp; omega, hI.put _ _, fun d kd hd => ?_⟩
  rw [lastIdx_snoc]
  by_cases e : c.f0 = d.f0 ∧ c.f1 = d.f1
  · have : valC c = valC d := by simp [valC, e.1, e.2]
    rw [← this, hk] at hd
    injection hd with hd
    subst hd
    simp only [e, and_self, if_true, Nat.zero_add]
    refine ⟨by rw [Maps.has_put_same hI (keyedC.key hk)]; rfl, fun j hj => ?_⟩
    obtain rfl := Option.some.inj hj
    exact Maps.atKey_put_same hI (keyedC.key hk) _ _
  · have hne : kd ≠ kl := fun he => e (valC_inj (keyedC.inj hk (he ▸ hd)))
    simp only [e, if_false]
    rw [Maps.has_put_other hne, Maps.atKey_put_other hne]
    exact hD d kd hd
theorem rd_take {l : List S27} {i : Nat} (h : i < l.length) : l.take i ++ [l.getD i z27] = l.take (i + 1) := by
  rw [List.take_add_one, List.getD_eq_getElem?_getD, List.getElem?_eq_getElem h]; rfl
theorem pm_putAt (hgd : o.guard = none) (m x v : Operand) (hop : o.op = .mapUpdate 107 m x v) (hm : a.eval m = .map (some b)) (i : Int) (hM : PM W b (l.take i.toNat)) (h0 : 0 ≤ i) (h1 : i < (l.length : Int)) (hl : l.length ≤ 35184372088832) (hw : l.all wfC = true)
    (hx : a.eval x = .agg #[.int .i64 (rd_T27 l i).f0, .int .i64 (rd_T27 l i).f1]) (hv : a.eval v = .int .i64 i)
    (h : ∀ w1, W.grownBy w1 (some b) → 0 ≤ wrap64 (i + 1) → PM w1 b (l.take (wrap64 (i + 1)).toNat) → wpList Try.prog ops Q rest (a.put o.dst undef) w1) : wpList Try.prog ops Q (o :: rest) a W := by
  have hi : i.toNat < l.length := by omega
  have e : wrap64 (i + 1) = i + 1 := by simp only [wrap64]; omega
  have hlen : (l.take i.toNat).length = i.toNat := by rw [List.length_take]; omega
  refine pm_put hgd m x v hop hm hM (by omega) (rd_T27 l i) hx (by rw [hv, hlen]; congr 1; omega) ?_ ?_
  · refine List.all_eq_true.1 hw _ ?_
    unfold rd_T27
    rw [List.getD_eq_getElem?_getD, List.getElem?_eq_getElem hi]
    exact List.getElem_mem hi
  · intro w1 hg hp
    have hp' : PM w1 b (l.take i.toNat ++ [l.getD i.toNat z27]) := hp
    rw [rd_take hi] at hp'
    refine h w1 hg (by omega) ?_
    rw [e, show (i + 1).toNat = i.toNat + 1 by omega]
    exact hp'
theorem pm_all {w : World} {i : Int} (h : PM w b (l.take i.toNat)) (hi : ¬ i < (l.length : Int)) : PM w b l := by
  rwa [List.take_of_length_le (by omega)] at h
theorem pm_look (hgd : o.guard = none) (m x : Operand) (hop : o.op = .lookup 107 m x true) (hm : a.eval m = .map (some b)) (hM : PM W b l) (c0 c1 : Int) (hx : a.eval x = .agg #[.int .i64 c0, .int .i64 c1]) {t : Int} {ok : Bool} (hf : impl_partsLook.f l c0 c1 = some (t, ok))
    (h : ∀ w1, Below W.heap.size W w1 → PM w1 b l → wpList Try.prog ops Q rest (a.put o.dst (.tuple #[.int .i64 t, .bool ok])) w1) : wpList Try.prog ops Q (o :: rest) a W := by
  have hM' := hM
  obtain ⟨D, n, ho, hn, hI, hD⟩ := hM
  unfold impl_partsLook.f at hf
  by_cases hw : wfC ⟨c0, c1⟩ = true
  · rw [if_pos hw] at hf
    obtain ⟨kl, hk⟩ := keyC ⟨c0, c1⟩ hw
    obtain ⟨h1, h2⟩ := hD ⟨c0, c1⟩ kl hk
    refine wpList_lookup_own_ok_int W hgd m x 107 hop 27 3 .i64 keyedC Try.underlying107 Try.underlying3 (by kernel_rfl) b n D hm ho _ kl hx hk ?_
    intro q hq _
    cases e : lastIdx l ⟨c0, c1⟩ 0 with
    | some j =>
      rw [e] at hf h1
      have h3 := h2 j e
      rw [h3] at hq
      simp only [Option.some.injEq, Prod.mk.injEq] at hf
      obtain ⟨rfl, rfl⟩ := hf
      obtain rfl : (j : Int) = q := by simpa using hq
      rw [h1]
      exact h W (Below.refl _ _) hM'
    | none =>
      rw [e] at hf h1
      rw [Maps.atKey_of_not_has (by simpa using h1)] at hq
      simp only [Option.some.injEq, Prod.mk.injEq] at hf
      obtain ⟨rfl, rfl⟩ := hf
      obtain rfl : (0 : Int) = q := by simpa using hq
      rw [h1]
      exact h W (Below.refl _ _) hM'
  · rw [if_neg hw] at hf
    exact absurd hf (by simp)
end

end Go.Proofs.Yteelofmecchmcaa.F
