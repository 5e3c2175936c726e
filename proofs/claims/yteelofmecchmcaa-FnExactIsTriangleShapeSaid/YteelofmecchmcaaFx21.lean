-- PRINTED by print.py (a twelfth state) out of the translation. Not trusted: Lean checks it.
import Derived.Test.YteelofmecchmcaaFx0
import Derived.Test.YteelofmecchmcaaFx9
import Derived.Test.YteelofmecchmcaaFx18
import Derived.Test.YteelofmecchmcaaFx20
import Derived.Test.YteelofmecchmcaaFx22
namespace Go.Proofs.Yteelofmecchmcaa.F
open Go.RowKit Go.Proofs.YteelofmecchmcaaW.PrintWords Go.Proofs.YteelofmecchmcaaW.PrintLast Go.Proofs.YteelofmecchmcaaW.PrintMore
attribute [local go_sem] max2_int min2_int max_two min_two max_three min_three max_four min_four   -- for this text's walks alone
set_option linter.unusedVariables false
set_option linter.unusedSimpArgs false

/-! ### spec_IsTriangleShape: function 23 -/
def spec_IsTriangleShape.f (k : Nat) (l0 : List (S27)) : Option (Bool × Bool) := (spec_l07Shape.f k 0 l0).bind fun t230 => (if t230 = true then ((spec_l07Connected.f k 0 l0).bind fun t231 => (some (true, t231))) else (some (false, false)))
theorem spec_IsTriangleShape.mono : ∀ a0 k, LeO (spec_IsTriangleShape.f k a0) (spec_IsTriangleShape.f (k + 1) a0) := by
  intro a0 k
  unfold spec_IsTriangleShape.f
  repeat' first
      | (with_reducible exact spec_l07Connected.mono _ _ _)
      | (with_reducible exact spec_l07Shape.mono _ _ _)
      | (with_reducible exact LeO.refl _)
      | (with_reducible exact LeO.none _)
      | (with_reducible refine LeO.ite ?_ ?_)
      | (with_reducible refine LeO.bind ?_ (fun _ => ?_))
      | exact spec_l07Connected.mono _ _ _
      | exact spec_l07Shape.mono _ _ _
      | exact LeO.none _
      | refine LeO.ite ?_ ?_
      | refine LeO.bind ?_ (fun _ => ?_)
set_option maxHeartbeats 8000000 in
set_option maxRecDepth 100000 in
theorem spec_IsTriangleShape.calls (k : Nat) (A0 : Option Addr) (c0 : Nat) (l0 : List (S27)) (r1 : Bool) (r2 : Bool) (w : World) (hr0 : Kd.C k27 w A0 l0.length l0) (hc0 : l0.length ≤ c0) (h : spec_IsTriangleShape.f k l0 = some (r1, r2)) :
    Calls Try.prog 23 #[.slice A0 l0.length c0] w fun e w' => e = .returned (.tuple #[.bool r1, .bool r2]) ∧ Below w.heap.size w w' := by
  have HR0 := Aside0.mk hr0
  have HC0 := Aside0.mk hc0
  clear hr0 hc0
  have HB := Aside0.mk (Below.refl w.heap.size w)
  have H : ((spec_l07Shape.f k 0 l0).bind fun t230 => (if t230 = true then ((spec_l07Connected.f k 0 l0).bind fun t231 => (some (true, t231))) else (some (false, false)))) = some (r1, r2) := h
  clear h
  replace H := Option.bind_eq_some_iff.mp H
  obtain ⟨t230, A20, H⟩ := H
  replace H : (if t230 = true then ((spec_l07Connected.f k 0 l0).bind fun t231 => (some (true, t231))) else (some (false, false))) = some (r1, r2) := H
  have A2 := Aside0.mk A20
  clear A20
  by_cases c3 : t230 = true
  · subst c3
    have H1 : ((spec_l07Connected.f k 0 l0).bind fun t231 => (some (true, t231))) = some (r1, r2) := by rw [if_pos rfl] at H; exact H
    clear H
    have H := H1
    clear H1
    replace H := Option.bind_eq_some_iff.mp H
    obtain ⟨t231, A40, H⟩ := H
    replace H : (some (true, t231)) = some (r1, r2) := H
    have A4 := Aside0.mk A40
    clear A40
    simp only [Option.some.injEq, Prod.mk.injEq] at H
    obtain ⟨rfl, rfl⟩ := H
    go_enter Try.func23, Try.ntmps23
    go_wp2_with (first | ((with_reducible refine gate_callee (f := 63) rfl ?_); refine goesL_ (some 5) rfl rfl Try.func63 (by kernel_rfl) rfl #[.int .i64 0, .slice A0 l0.length c0] rfl (by (try simp only [List.map_toArray, List.map_cons, List.map_nil]); first | done | rfl | (simp only [List.length_drop, List.length_take]; rfl)) ?_; (with_reducible refine (spec_l07Shape.calls k 0 _ _ l0 true _ ?side1 ?side2 A2.out).mono ?_); (case side1 => repeat (first | exact HR0.out | (with_reducible refine Kd.C_alloc ?_ _) | (with_reducible refine Kd.C_drewN ?_ _) | (with_reducible refine Kd.C_drew ?_))); (case side2 => exact HC0.out); rintro e w5 ⟨rfl, hb⟩; refine ⟨_, rfl, ?_⟩; have n0_ := Aside0.mk (below_step (by repeat (first | (with_reducible first | exact HB.out | apply below_alloc | apply pw_below_drewN | apply below_drew1) | exact HB.out)) hb); clear HB; have HB := n0_; clear n0_; (try clear hb); (try clear hb2); (try clear hk); (try clear hi)) | ((with_reducible refine gate_callee (f := 64) rfl ?_); refine goesL_ (some 8) rfl rfl Try.func64 (by kernel_rfl) rfl #[.int .i64 0, .slice A0 l0.length c0] rfl (by (try simp only [List.map_toArray, List.map_cons, List.map_nil]); first | done | rfl | (simp only [List.length_drop, List.length_take]; rfl)) ?_; (with_reducible refine (spec_l07Connected.calls k 0 _ _ l0 t231 _ ?side1 ?side2 A4.out).mono ?_); (case side1 => repeat (first | exact (Kd.C_below HR0.out HB.out) | (with_reducible refine Kd.C_alloc ?_ _) | (with_reducible refine Kd.C_drewN ?_ _) | (with_reducible refine Kd.C_drew ?_))); (case side2 => exact HC0.out); rintro e w6 ⟨rfl, hb⟩; refine ⟨_, rfl, ?_⟩; have n0_ := Aside0.mk (below_step (by repeat (first | (with_reducible first | exact HB.out | apply below_alloc | apply pw_below_drewN | apply below_drew1) | exact HB.out)) hb); clear HB; have HB := n0_; clear n0_; (try clear hb); (try clear hb2); (try clear hk); (try clear hi)))
    go_ret2
    exact ⟨by first | rfl | (simp [errW_none, errW_some] <;> rfl) | (simp [*, errW_none, errW_some] <;> rfl), by repeat (first | (with_reducible first | exact HB.out | apply below_alloc | apply pw_below_drewN | apply below_drew1) | exact HB.out)⟩
  · replace c3 := Bool.eq_false_iff.mpr c3
    subst c3
    have H1 : (some (false, false)) = some (r1, r2) := by rw [if_neg (show ¬ (false = true) by decide)] at H; exact H
    clear H
    have H := H1
    clear H1
    simp only [Option.some.injEq, Prod.mk.injEq] at H
    obtain ⟨rfl, rfl⟩ := H
    go_enter Try.func23, Try.ntmps23
    go_wp2_with (first | ((with_reducible refine gate_callee (f := 63) rfl ?_); refine goesL_ (some 5) rfl rfl Try.func63 (by kernel_rfl) rfl #[.int .i64 0, .slice A0 l0.length c0] rfl (by (try simp only [List.map_toArray, List.map_cons, List.map_nil]); first | done | rfl | (simp only [List.length_drop, List.length_take]; rfl)) ?_; (with_reducible refine (spec_l07Shape.calls k 0 _ _ l0 false _ ?side1 ?side2 A2.out).mono ?_); (case side1 => repeat (first | exact HR0.out | (with_reducible refine Kd.C_alloc ?_ _) | (with_reducible refine Kd.C_drewN ?_ _) | (with_reducible refine Kd.C_drew ?_))); (case side2 => exact HC0.out); rintro e w7 ⟨rfl, hb⟩; refine ⟨_, rfl, ?_⟩; have n0_ := Aside0.mk (below_step (by repeat (first | (with_reducible first | exact HB.out | apply below_alloc | apply pw_below_drewN | apply below_drew1) | exact HB.out)) hb); clear HB; have HB := n0_; clear n0_; (try clear hb); (try clear hb2); (try clear hk); (try clear hi)))
    go_ret2
    exact ⟨by first | rfl | (simp [errW_none, errW_some] <;> rfl) | (simp [*, errW_none, errW_some] <;> rfl), by repeat (first | (with_reducible first | exact HB.out | apply below_alloc | apply pw_below_drewN | apply below_drew1) | exact HB.out)⟩

/-! ### impl_parts__impl_trianglesAround: function 107 -/
mutual
def impl_parts__impl_trianglesAround.l0 : Nat → List (S27) → List Int → List (S27) → Int → Int → Option (List Int)
  | 0, _, _, _, _, _ => none
  | k + 1, x0, x6, x20, x21, x22 => if x22 < x21 then (if 0 ≤ x22 then (if x22 < (x20.length : Int) then (if x22 < (x6.length : Int) then (impl_parts__impl_trianglesAround.l0 k x0 (x6.set (x22 : Int).toNat (-1)) x20 x21 (wrap64 (x22 + 1))) else (none)) else (none)) else (none)) else (impl_parts__impl_trianglesAround.l1 k x0 x6 (x0.length : Int) 0)
def impl_parts__impl_trianglesAround.l1 : Nat → List (S27) → List Int → Int → Int → Option (List Int)
  | 0, _, _, _, _ => none
  | k + 1, x0, x6, x35, x36 => if x36 < x35 then (if 0 ≤ x36 then (if x36 < (x6.length : Int) then (if (rd x6 x36) ≥ 0 then (impl_parts__impl_trianglesAround.l1 k x0 x6 x35 (wrap64 (x36 + 1))) else (impl_parts__impl_trianglesAround.l2 k x0 (x6.set (x36 : Int).toNat x36) x36 (([x36] : List Int)) 0 x35 x36)) else (none)) else (none)) else (some x6)
def impl_parts__impl_trianglesAround.l2 : Nat → List (S27) → List Int → Int → List Int → Int → Int → Int → Option (List Int)
  | 0, _, _, _, _, _, _, _ => none
  | k + 1, x0, x6, x9, x10, x11, x35, x36 => if x11 < (x10.length : Int) then (if 0 ≤ x11 then (if 0 ≤ (rd x10 x11) then (if (rd x10 x11) < (x0.length : Int) then ((impl_trianglesAround.f ((rd_T27 x0 (rd x10 x11)).f0) ((rd_T27 x0 (rd x10 x11)).f1)).bind fun t267 => (impl_parts__impl_trianglesAround.l3 k x0 x6 x9 x10 x11 x35 x36 t267 (t267.length : Int) 0)) else (none)) else (none)) else (none)) else (impl_parts__impl_trianglesAround.l1 k x0 x6 x35 (wrap64 (x36 + 1)))
def impl_parts__impl_trianglesAround.l3 : Nat → List (S27) → List Int → Int → List Int → Int → Int → Int → List (S27) → Int → Int → Option (List Int)
  | 0, _, _, _, _, _, _, _, _, _, _ => none
  | k + 1, x0, x6, x9, x10, x11, x35, x36, x64, x65, x66 => if x66 < x65 then (if 0 ≤ x66 then (if x66 < (x64.length : Int) then ((impl_partsLook.f x0 ((rd_T27 x64 x66).f0) ((rd_T27 x64 x66).f1)).bind fun bt272 => (if bt272.2 = true then (if 0 ≤ bt272.1 then (if bt272.1 < (x6.length : Int) then (if (rd x6 bt272.1) < 0 then (if x10.length < 17592186044416 then (impl_parts__impl_trianglesAround.l3 k x0 (x6.set (bt272.1 : Int).toNat x9) x9 (x10 ++ [bt272.1]) x11 x35 x36 x64 x65 (wrap64 (x66 + 1))) else (none)) else (impl_parts__impl_trianglesAround.l3 k x0 x6 x9 x10 x11 x35 x36 x64 x65 (wrap64 (x66 + 1)))) else (none)) else (none)) else (impl_parts__impl_trianglesAround.l3 k x0 x6 x9 x10 x11 x35 x36 x64 x65 (wrap64 (x66 + 1))))) else (none)) else (none)) else (impl_parts__impl_trianglesAround.l2 k x0 x6 x9 x10 (wrap64 (x11 + 1)) x35 x36)
end
def impl_parts__impl_trianglesAround.f (k : Nat) (l0 : List (S27)) : Option (List Int) := if l0.all wfC = true then (if 0 ≤ (l0.length : Int) then (if ((l0.length : Int) : Int).toNat ≤ 35184372088832 then (impl_parts__impl_trianglesAround.l0 k l0 (List.replicate ((l0.length : Int) : Int).toNat 0) l0 (l0.length : Int) 0) else (none)) else (none)) else none
theorem impl_parts__impl_trianglesAround.mono_l : ∀ k, (∀ y0 y1 y2 y3 y4, LeO (impl_parts__impl_trianglesAround.l0 k y0 y1 y2 y3 y4) (impl_parts__impl_trianglesAround.l0 (k + 1) y0 y1 y2 y3 y4)) ∧ (∀ y0 y1 y2 y3, LeO (impl_parts__impl_trianglesAround.l1 k y0 y1 y2 y3) (impl_parts__impl_trianglesAround.l1 (k + 1) y0 y1 y2 y3)) ∧ (∀ y0 y1 y2 y3 y4 y5 y6, LeO (impl_parts__impl_trianglesAround.l2 k y0 y1 y2 y3 y4 y5 y6) (impl_parts__impl_trianglesAround.l2 (k + 1) y0 y1 y2 y3 y4 y5 y6)) ∧ (∀ y0 y1 y2 y3 y4 y5 y6 y7 y8 y9, LeO (impl_parts__impl_trianglesAround.l3 k y0 y1 y2 y3 y4 y5 y6 y7 y8 y9) (impl_parts__impl_trianglesAround.l3 (k + 1) y0 y1 y2 y3 y4 y5 y6 y7 y8 y9))
  | 0 => ⟨fun _ _ _ _ _ r h => by simp [impl_parts__impl_trianglesAround.l0] at h, fun _ _ _ _ r h => by simp [impl_parts__impl_trianglesAround.l1] at h, fun _ _ _ _ _ _ _ r h => by simp [impl_parts__impl_trianglesAround.l2] at h, fun _ _ _ _ _ _ _ _ _ _ r h => by simp [impl_parts__impl_trianglesAround.l3] at h⟩
  | k + 1 => by
    obtain ⟨ih0, ih1, ih2, ih3⟩ := impl_parts__impl_trianglesAround.mono_l k
    refine ⟨?_, ?_, ?_, ?_⟩
    · intro y0 y1 y2 y3 y4
      unfold impl_parts__impl_trianglesAround.l0
      repeat' first
      | (with_reducible exact ih0 _ _ _ _ _)
      | (with_reducible exact ih1 _ _ _ _)
      | (with_reducible exact ih2 _ _ _ _ _ _ _)
      | (with_reducible exact ih3 _ _ _ _ _ _ _ _ _ _)
      | (with_reducible exact LeO.refl _)
      | (with_reducible exact LeO.none _)
      | (with_reducible refine LeO.ite ?_ ?_)
      | (with_reducible refine LeO.bind ?_ (fun _ => ?_))
      | exact ih0 _ _ _ _ _
      | exact ih1 _ _ _ _
      | exact ih2 _ _ _ _ _ _ _
      | exact ih3 _ _ _ _ _ _ _ _ _ _
      | exact LeO.none _
      | refine LeO.ite ?_ ?_
      | refine LeO.bind ?_ (fun _ => ?_)
    · intro y0 y1 y2 y3
      unfold impl_parts__impl_trianglesAround.l1
      repeat' first
      | (with_reducible exact ih0 _ _ _ _ _)
      | (with_reducible exact ih1 _ _ _ _)
      | (with_reducible exact ih2 _ _ _ _ _ _ _)
      | (with_reducible exact ih3 _ _ _ _ _ _ _ _ _ _)
      | (with_reducible exact LeO.refl _)
      | (with_reducible exact LeO.none _)
      | (with_reducible refine LeO.ite ?_ ?_)
      | (with_reducible refine LeO.bind ?_ (fun _ => ?_))
      | exact ih0 _ _ _ _ _
      | exact ih1 _ _ _ _
      | exact ih2 _ _ _ _ _ _ _
      | exact ih3 _ _ _ _ _ _ _ _ _ _
      | exact LeO.none _
      | refine LeO.ite ?_ ?_
      | refine LeO.bind ?_ (fun _ => ?_)
    · intro y0 y1 y2 y3 y4 y5 y6
      unfold impl_parts__impl_trianglesAround.l2
      repeat' first
      | (with_reducible exact ih0 _ _ _ _ _)
      | (with_reducible exact ih1 _ _ _ _)
      | (with_reducible exact ih2 _ _ _ _ _ _ _)
      | (with_reducible exact ih3 _ _ _ _ _ _ _ _ _ _)
      | (with_reducible exact LeO.refl _)
      | (with_reducible exact LeO.none _)
      | (with_reducible refine LeO.ite ?_ ?_)
      | (with_reducible refine LeO.bind ?_ (fun _ => ?_))
      | exact ih0 _ _ _ _ _
      | exact ih1 _ _ _ _
      | exact ih2 _ _ _ _ _ _ _
      | exact ih3 _ _ _ _ _ _ _ _ _ _
      | exact LeO.none _
      | refine LeO.ite ?_ ?_
      | refine LeO.bind ?_ (fun _ => ?_)
    · intro y0 y1 y2 y3 y4 y5 y6 y7 y8 y9
      unfold impl_parts__impl_trianglesAround.l3
      repeat' first
      | (with_reducible exact ih0 _ _ _ _ _)
      | (with_reducible exact ih1 _ _ _ _)
      | (with_reducible exact ih2 _ _ _ _ _ _ _)
      | (with_reducible exact ih3 _ _ _ _ _ _ _ _ _ _)
      | (with_reducible exact LeO.refl _)
      | (with_reducible exact LeO.none _)
      | (with_reducible refine LeO.ite ?_ ?_)
      | (with_reducible refine LeO.bind ?_ (fun _ => ?_))
      | exact ih0 _ _ _ _ _
      | exact ih1 _ _ _ _
      | exact ih2 _ _ _ _ _ _ _
      | exact ih3 _ _ _ _ _ _ _ _ _ _
      | exact LeO.none _
      | refine LeO.ite ?_ ?_
      | refine LeO.bind ?_ (fun _ => ?_)
theorem impl_parts__impl_trianglesAround.mono : ∀ a0 k, LeO (impl_parts__impl_trianglesAround.f k a0) (impl_parts__impl_trianglesAround.f (k + 1) a0) := by
  intro a0 k
  obtain ⟨ih0, ih1, ih2, ih3⟩ := impl_parts__impl_trianglesAround.mono_l k
  unfold impl_parts__impl_trianglesAround.f
  repeat' first
      | (with_reducible exact ih0 _ _ _ _ _)
      | (with_reducible exact ih1 _ _ _ _)
      | (with_reducible exact ih2 _ _ _ _ _ _ _)
      | (with_reducible exact ih3 _ _ _ _ _ _ _ _ _ _)
      | (with_reducible exact LeO.refl _)
      | (with_reducible exact LeO.none _)
      | (with_reducible refine LeO.ite ?_ ?_)
      | (with_reducible refine LeO.bind ?_ (fun _ => ?_))
      | exact ih0 _ _ _ _ _
      | exact ih1 _ _ _ _
      | exact ih2 _ _ _ _ _ _ _
      | exact ih3 _ _ _ _ _ _ _ _ _ _
      | exact LeO.none _
      | refine LeO.ite ?_ ?_
      | refine LeO.bind ?_ (fun _ => ?_)
set_option maxHeartbeats 8000000 in
set_option maxRecDepth 100000 in
theorem impl_parts__impl_trianglesAround.calls (k : Nat) (A0 : Option Addr) (c0 : Nat) (l0 : List (S27))  (r : List Int) (w : World) (hr0 : Kd.C k27 w A0 l0.length l0) (hc0 : l0.length ≤ c0) (h : impl_parts__impl_trianglesAround.f k l0 = some r) :
    Calls Try.prog 107 #[.slice A0 l0.length c0, .func (.func 61) #[] #[]] w fun e w' => ∃ v0_ : Value, e = .returned (v0_) ∧ Kd.R (Kd.int .i64) 2 w' w.heap.size (fun _ => True) v0_ r ∧ Below w.heap.size w w' := by
  have hu27 := Try.underlying27
  have HR0 := Aside0.mk hr0
  have HC0 := Aside0.mk hc0
  clear hr0 hc0
  have HB := Aside0.mk (Below.refl w.heap.size w)
  have Hwf : l0.all wfC = true := by
    by_cases hh : l0.all wfC = true
    · exact hh
    · unfold impl_parts__impl_trianglesAround.f at h; rw [if_neg hh] at h; cases h
  have H : (if 0 ≤ (l0.length : Int) then (if ((l0.length : Int) : Int).toNat ≤ 35184372088832 then (impl_parts__impl_trianglesAround.l0 k l0 (List.replicate ((l0.length : Int) : Int).toNat 0) l0 (l0.length : Int) 0) else (none)) else (none)) = some r := by unfold impl_parts__impl_trianglesAround.f at h; rw [if_pos Hwf] at h; exact h
  clear h
  by_cases c3 : 0 ≤ (l0.length : Int)
  · rw [if_pos c3] at H
    have c3b0 := eq_true c3
    have c3b1 : decide (0 ≤ (l0.length : Int)) = true := decide_eq_true c3
    clear c3
    by_cases c4 : ((l0.length : Int) : Int).toNat ≤ 35184372088832
    · rw [if_pos c4] at H
      have c4b0 := eq_true c4
      have c4b1 : decide (((l0.length : Int) : Int).toNat ≤ 35184372088832) = true := decide_eq_true c4
      have HLN : Aside0 (l0.length ≤ 35184372088832) := ⟨by have := of_decide_eq_true c4b1; omega⟩
      clear c4
      obtain ⟨y254, hy254⟩ : ∃ y_ : List Int, y_ = (List.replicate ((l0.length : Int) : Int).toNat 0) := ⟨_, rfl⟩
      replace H : (impl_parts__impl_trianglesAround.l0 k l0 y254 l0 (l0.length : Int) 0) = some r := by first | (rw [hy254]; with_reducible exact H) | (have H2_ := (Option.bind_some _ _).symm.trans H; rw [hy254]; with_reducible exact H2_) | (have H2_ := (Option.bind_some _ _).symm.trans H; with_reducible exact H2_) | with_reducible exact H | (rw [hy254]; exact H) | exact H
      have Ny254 := Aside0.mk hy254
      clear hy254
      have H' := Aside0.mk H
      clear H
      go_enter Try.func107, Try.ntmps107
      go_wp2_with (first | ((with_reducible refine gate_dst (N := 16) rfl ?_); refine pm_make rfl rfl ?_; intro bm w40_ hb hlt_ hM_; have HM := Aside0.mk hM_; have HMB := Aside0.mk (Nat.le_trans (below_size (by repeat (first | (with_reducible first | exact HB.out | apply below_alloc | apply pw_below_drewN | apply below_drew1) | exact HB.out))) hlt_); have n1_ := Aside0.mk (below_step (by repeat (first | (with_reducible first | exact HB.out | apply below_alloc | apply pw_below_drewN | apply below_drew1) | exact HB.out)) hb); clear HB; have HB := n1_; clear n1_ hM_ hb hlt_) | ((with_reducible refine gate_dst (N := 19) rfl ?_); refine Kd.R_make (Kd.int .i64) _ 2 rfl (N := 19) rfl 41 _ _ rfl (l0.length : Int) rfl rfl Try.underlying41 (.int .i64 0) 8 info2 rfl (by decide) (by omega) 0 (ok := fun _ => True) (okp := fun _ => True) rfl (fun _ hk => hk) trivial (of_decide_eq_true (by first | (with_reducible assumption) | assumption)) (Nat.le_trans (Nat.mul_le_mul_right _ (of_decide_eq_true (by first | (with_reducible assumption) | assumption) : (l0.length : Int).toNat ≤ 35184372088832)) (by omega)) (Below.refl _ _) (Nat.le_refl _) ?_; intro v255 w5 ho6 hb hg_ hnew_; clear hg_ hnew_; have m0_ := Aside0.mk (pm_step (by (with_reducible repeat (first | apply pm_alloc | apply pm_drewN | apply pm_drew | refine pm_farN ?_ (by assumption) _)); exact HM.out) hb); clear HM; have HM := m0_; clear m0_; (first | rw [← Ny254.out] at ho6 | (simp only [Int.reduceToNat] at ho6; rw [← Ny254.out] at ho6)); have n0_ := Aside0.mk (Kd.R_lower ho6 (below_size (by repeat (first | (with_reducible first | exact HB.out | apply below_alloc | apply pw_below_drewN | apply below_drew1) | exact HB.out)))); have n1_ := Aside0.mk (below_step (by repeat (first | (with_reducible first | exact HB.out | apply below_alloc | apply pw_below_drewN | apply below_drew1) | exact HB.out)) hb); clear HB; have HO256 := n0_; have HB := n1_; clear n0_ n1_; clear hb ho6))
      go_loopg [22] k (fun kq v22 w' => ∃ (x6_1 : List Int) (x22_1 : Int), v22 = .int .i64 x22_1 ∧ Aside0 (impl_parts__impl_trianglesAround.l0 kq l0 x6_1 l0 (l0.length : Int) x22_1 = some r) ∧ Aside0 (kq ≤ k) ∧ Aside0 (Kd.R (Kd.int .i64) 2 w' w.heap.size (fun _ => True) v255 x6_1) ∧ Aside0 (Below w.heap.size w w') ∧ Aside0 (0 ≤ x22_1) ∧ Aside0 (PM w' bm (l0.take x22_1.toNat)))
      case atStart => exact ⟨(y254), (0), (by first | rfl | (simp; done) | (simp [*]; done)), H', ⟨Nat.le_refl _⟩, ⟨by (with_reducible repeat (first | apply Kd.R_alloc | apply Kd.R_drewN | apply Kd.R_drew)); exact HO256.out⟩, ⟨by repeat (first | (with_reducible first | exact HB.out | apply below_alloc | apply pw_below_drewN | apply below_drew1) | exact HB.out)⟩, ⟨Int.le_refl _⟩, ⟨(by (with_reducible repeat (first | apply pm_alloc | apply pm_drewN | apply pm_drew | refine pm_farN ?_ (by assumption) _)); exact HM.out)⟩⟩
      case round =>
        clear H'
        try clear p2
        try clear c3
        try clear c3b0
        try clear c3b1
        try clear c4
        try clear c4b0
        try clear c4b1
        obtain ⟨x6_1, x22_1, rfl, HA, HK1, HO_6, HB, HI, HM⟩ := hrel
        cases gk with
        | zero => exact absurd HA.out (by simp [impl_parts__impl_trianglesAround.l0])
        | succ k1 =>
          have H := HA.out
          clear HA
          simp only [impl_parts__impl_trianglesAround.l0] at H
          by_cases c7 : x22_1 < (l0.length : Int)
          · rw [if_pos c7] at H
            have c7b0 : decide (x22_1 < (l0.length : Int)) = true := decide_eq_true c7
            clear c7
            by_cases c8 : 0 ≤ x22_1
            · rw [if_pos c8] at H
              have c8b0 : decide (0 ≤ x22_1) = true := decide_eq_true c8
              clear c8
              by_cases c9 : x22_1 < (l0.length : Int)
              · rw [if_pos c9] at H
                have c9b0 : decide (x22_1 < (l0.length : Int)) = true := decide_eq_true c9
                clear c9
                by_cases c10 : x22_1 < (x6_1.length : Int)
                · rw [if_pos c10] at H
                  have c10b0 : decide (x22_1 < (x6_1.length : Int)) = true := decide_eq_true c10
                  clear c10
                  obtain ⟨y259, hy259⟩ : ∃ y_ : List Int, y_ = (x6_1.set (x22_1 : Int).toNat (-1)) := ⟨_, rfl⟩
                  replace H : (impl_parts__impl_trianglesAround.l0 k1 l0 y259 l0 (l0.length : Int) (wrap64 (x22_1 + 1))) = some r := by first | (rw [hy259]; with_reducible exact H) | (have H2_ := (Option.bind_some _ _).symm.trans H; rw [hy259]; with_reducible exact H2_) | (have H2_ := (Option.bind_some _ _).symm.trans H; with_reducible exact H2_) | with_reducible exact H | (rw [hy259]; exact H) | exact H
                  have Ny259 := Aside0.mk hy259
                  clear hy259
                  have H' := Aside0.mk H
                  clear H
                  have p257 : 0 ≤ (x22_1 : Int) := of_decide_eq_true (by first | (with_reducible assumption) | assumption)
                  have q257 : x22_1 < (l0.length : Int) := of_decide_eq_true (by first | (with_reducible assumption) | assumption)
                  obtain ⟨ad257, e257, hx257_0, hx257_1⟩ := at_T27 HR0.out x22_1 p257 q257
                  cases e257
                  replace hx257_0 := (HB.out.cell (World.block_lt_of_cell? w _ hx257_0)).trans hx257_0
                  replace hx257_1 := (HB.out.cell (World.block_lt_of_cell? w _ hx257_1)).trans hx257_1
                  replace p257 := eq_true p257
                  replace q257 := eq_true q257
                  go_wp2_with (first | ((with_reducible refine gate_dst (N := 8) rfl ?_); refine box_event ?hg (N := 8) ?hd (cs := #[.int .i64 0, .int .i64 0]) (t := 27) ?hr ?_; (case hd => rfl); (case hg => rfl); (case hr => first | (go_simp; done) | (go_simp; rfl)); intro gb258 hg w12 hbox hb; have hne258 : bm ≠ gb258 := (by rw [hg]; exact Nat.ne_of_lt (pm_lt (by (with_reducible repeat (first | apply pm_alloc | apply pm_drewN | apply pm_drew | refine pm_farN ?_ (by assumption) _)); exact HM.out))); have m0_ := Aside0.mk (pm_step (by (with_reducible repeat (first | apply pm_alloc | apply pm_drewN | apply pm_drew | refine pm_farN ?_ (by assumption) _)); exact HM.out) hb); clear HM; have HM := m0_; clear m0_; have n0_ := Aside0.mk (Kd.R_below (by (with_reducible repeat (first | apply Kd.R_alloc | apply Kd.R_drewN | apply Kd.R_drew)); exact HO_6.out) hb); have n1_ := Aside0.mk (below_step (by repeat (first | (with_reducible first | exact HB.out | apply below_alloc | apply pw_below_drewN | apply below_drew1) | exact HB.out)) hb); have n2_ := Aside0.mk (hbox); have n3_ := Aside0.mk ((by rw [hg]; exact (below_size (by repeat (first | (with_reducible first | exact HB.out | apply below_alloc | apply pw_below_drewN | apply below_drew1) | exact HB.out))) : w.heap.size ≤ gb258)); have n4_ := Aside0.mk ((by rw [hg]; exact (below_size (by repeat (first | (with_reducible first | exact HB.out | apply below_alloc | apply pw_below_drewN | apply below_drew1) | exact HB.out))) : w.heap.size ≤ gb258)); clear HO_6; clear HB; have HO_6 := n0_; have HB := n1_; have BK258 := n2_; have GW258 := n3_; have GE258 := n4_; clear n0_ n1_ n2_ n3_ n4_; clear hb hbox hg; have hcz13_0 : w12.cell? ⟨gb258, 0, none⟩ = some (.int .i64 0) := (blk_cell BK258.out 0).trans rfl; have hcz13_1 : w12.cell? ⟨gb258, 1, none⟩ = some (.int .i64 0) := (blk_cell BK258.out 1).trans rfl; have hfz13_0 := blk_frozen BK258.out 0; have hfz13_1 := blk_frozen BK258.out 1) | ((with_reducible refine gate_store (t := 27) (p := 8) rfl ?_); refine store_event (t := 27) (p := 8) (v := ?vo_w14) (w1 := ((w12.setCell ⟨gb258, 0, none⟩ (.int .i64 ((rd_T27 l0 x22_1).f0))).setCell ⟨gb258, 1, none⟩ (.int .i64 ((rd_T27 l0 x22_1).f1)))) ?hg ?ho ?hn ?hr ?_; (case ho => rfl); (case hg => rfl); (case hn => rfl); (case hr => first | (go_simp; done) | (go_simp; rfl)); intro w14 hw; have m0_ : Aside0 (PM w14 bm (l0.take x22_1.toNat)) := ⟨(by rw [hw]; exact (by (with_reducible repeat (first | apply pm_alloc | apply pm_drewN | apply pm_drew | refine pm_farN ?_ (by assumption) _)); exact HM.out))⟩; clear HM; have HM := m0_; clear m0_; have n0_ : Aside0 (Kd.R (Kd.int .i64) 2 w14 w.heap.size (fun _ => True) v255 x6_1) := ⟨(by rw [hw]; exact (by (with_reducible repeat (first | apply Kd.R_alloc | apply Kd.R_drewN | apply Kd.R_drew)); exact Kd.R_mono (Kd.R_far (p := ⟨gb258, 1, none⟩) (Kd.R_far (p := ⟨gb258, 0, none⟩) (Kd.R_types HO_6.out BK258.out (by decide)) (fun _ hk => hk.2) (.int .i64 ((rd_T27 l0 x22_1).f0))) (fun _ hk => hk.2) (.int .i64 ((rd_T27 l0 x22_1).f1))) (fun _ hk => trivial)))⟩; have n1_ : Aside0 (w14.heap[gb258]? = some (.cells #[.int .i64 ((rd_T27 l0 x22_1).f0), .int .i64 ((rd_T27 l0 x22_1).f1)] 27 (0, 0))) := ⟨(by rw [hw]; exact (by (with_reducible repeat (first | refine blk_drewN ?_ _ | refine blk_drew ?_ | refine blk_alloc ?_ _)); refine blk_put (cs := #[.int .i64 ((rd_T27 l0 x22_1).f0), .int .i64 0]) ?_ 1 _ rfl; (with_reducible repeat (first | refine blk_drewN ?_ _ | refine blk_drew ?_ | refine blk_alloc ?_ _)); refine blk_put (cs := #[.int .i64 0, .int .i64 0]) ?_ 0 _ rfl; (with_reducible repeat (first | refine blk_drewN ?_ _ | refine blk_drew ?_ | refine blk_alloc ?_ _)); exact BK258.out))⟩; have n2_ : Aside0 (Below w.heap.size w w14) := ⟨(by rw [hw]; exact (by repeat (first | (with_reducible first | exact HB.out | apply below_alloc | apply pw_below_drewN | apply below_drew1 | refine below_set ?_ GE258.out) | exact HB.out)))⟩; clear hw; clear HO_6; clear BK258; clear HB; have HO_6 := n0_; have BK258 := n1_; have HB := n2_; clear n0_ n1_ n2_; have hcz15_0 : w14.cell? ⟨gb258, 0, none⟩ = some (.int .i64 ((rd_T27 l0 x22_1).f0)) := (blk_cell BK258.out 0).trans rfl; have hcz15_1 : w14.cell? ⟨gb258, 1, none⟩ = some (.int .i64 ((rd_T27 l0 x22_1).f1)) := (blk_cell BK258.out 1).trans rfl; have hfz15_0 := blk_frozen BK258.out 0; have hfz15_1 := blk_frozen BK258.out 1) | ((with_reducible refine gate_map (t := 107) (m := .tmp 27) (x := .tmp 28) (v := .tmp 29) rfl ?_); refine pm_putAt rfl _ _ _ rfl rfl x22_1 ?hM HI.out ?h1 HLN.out Hwf rfl rfl ?_; (case hM => exact (by (with_reducible repeat (first | apply pm_alloc | apply pm_drewN | apply pm_drew | refine pm_farN ?_ (by assumption) _)); exact HM.out)); (case h1 => exact of_decide_eq_true (by first | (with_reducible assumption) | assumption)); intro w14 hg hi_ m0h_; have n0_ := Aside0.mk (R_map (by (with_reducible repeat (first | apply Kd.R_alloc | apply Kd.R_drewN | apply Kd.R_drew)); exact HO_6.out) (by (with_reducible repeat (first | apply pm_alloc | apply pm_drewN | apply pm_drew | refine pm_farN ?_ (by assumption) _)); exact HM.out) hg); have n1_ := Aside0.mk (blk_grown (g := gb258) (o := .cells #[.int .i64 ((rd_T27 l0 x22_1).f0), .int .i64 ((rd_T27 l0 x22_1).f1)] 27 (0, 0)) (by (with_reducible repeat (first | refine blk_drewN ?_ _ | refine blk_drew ?_ | refine blk_alloc ?_ _)); exact BK258.out) hg (by simpa using Ne.symm (hne258))); have n2_ := Aside0.mk (pw_below_grown (by repeat (first | (with_reducible first | exact HB.out | apply below_alloc | apply pw_below_drewN | apply below_drew1) | exact HB.out)) (some bm) (below_size (by repeat (first | (with_reducible first | exact HB.out | apply below_alloc | apply pw_below_drewN | apply below_drew1) | exact HB.out))) hg (fun _ hk_ => by injection hk_ with hk_; subst hk_; exact HMB.out)); clear HM; clear HO_6; clear BK258; clear HB; clear HI; have HM := Aside0.mk m0h_; have HI := Aside0.mk hi_; have HO_6 := n0_; have BK258 := n1_; have HB := n2_; clear n0_ n1_ n2_ hg m0h_ hi_; have p11 : 0 ≤ (x22_1 : Int) := of_decide_eq_true (by first | (with_reducible assumption) | assumption); have q11 : (x22_1 : Int) < ((x6_1.length : Int) : Int) := of_decide_eq_true (by first | (with_reducible assumption) | assumption); obtain ⟨go11, co11, eo11, gb11, gl11, cl11, HG11⟩ := Kd.R_form HO_6.out (by omega); (first | cases eo11 | (injection eo11 with ea_ en_ ec_; (first | subst ea_ | (injection ea_ with ea_; subst ea_)); subst ec_; clear en_)); have GB11 := Aside0.mk gb11; have GG11 := Aside0.mk HG11; clear gb11 gl11 HG11; obtain ⟨hx11_0, hf11_0⟩ := Kd.R_celln 0 HO_6.out (x22_1 : Int) p11 q11; replace p11 := eq_true p11; replace q11 := eq_true q11; obtain ⟨hy16_, hz16_⟩ := Kd.R_celln 0 HO_6.out (x22_1 : Int) (of_decide_eq_true (by first | (with_reducible assumption) | assumption)) (of_decide_eq_true (by first | (with_reducible assumption) | assumption)); have HP16 := Kd.R_putg HO_6.out (x22_1 : Int) (-1)) | ((with_reducible refine gate_store (t := 2) (p := 32) rfl ?_); refine store_event (t := 2) (p := 32) (v := ?vo_w17) (w1 := (w14.setCell ⟨go11, (x22_1 : Int).toNat, none⟩ (.int .i64 (-1)))) ?hg ?ho ?hn ?hr ?_; (case ho => rfl); (case hg => rfl); (case hn => rfl); (case hr => first | (go_simp; done) | (go_simp; rfl)); intro w17 hw; have hg : w14.grownBy w17 (some go11) := (by rw [hw]; exact HP16.2); have m0_ := Aside0.mk (pm_kept (row := some go11) HM.out hg (pm_row HM.out HO_6.out)); clear HM; have HM := m0_; clear m0_; have hp_ : Kd.R (Kd.int .i64) 2 w17 w.heap.size (fun _ => True) (.slice (some ⟨go11, 0, none⟩) x6_1.length co11) y259 := (by rw [hw, Ny259.out]; exact HP16.1); clear HP16; have n0_ := Aside0.mk (hp_); have n1_ := Aside0.mk (blk_grown (g := gb258) (o := .cells #[.int .i64 ((rd_T27 l0 x22_1).f0), .int .i64 ((rd_T27 l0 x22_1).f1)] 27 (0, 0)) (by (with_reducible repeat (first | refine blk_drewN ?_ _ | refine blk_drew ?_ | refine blk_alloc ?_ _)); exact BK258.out) hg (Kd.R_ne HO_6.out BK258.out (by decide))); have n2_ := Aside0.mk ((by rw [hw]; exact below_set (HB.out) GB11.out : Below w.heap.size w w17)); clear HO_6; clear BK258; clear HB; have HO_6 := n0_; have BK258 := n1_; have HB := n2_; clear n0_ n1_ n2_; clear hg hw hp_))
                  go_roundg k1
                  case measure => have := HK1.out; omega
                  case rel => exact ⟨(y259), (wrap64 (x22_1 + 1)), (by first | rfl | (simp; done) | (simp [*]; done)), H', ⟨by have := HK1.out; omega⟩, ⟨by (with_reducible repeat (first | apply Kd.R_alloc | apply Kd.R_drewN | apply Kd.R_drew)); exact HO_6.out⟩, ⟨by repeat (first | (with_reducible first | exact HB.out | apply below_alloc | apply pw_below_drewN | apply below_drew1 | refine below_set ?_ GE258.out) | exact HB.out)⟩, ⟨HI.out⟩, ⟨(by (with_reducible repeat (first | apply pm_alloc | apply pm_drewN | apply pm_drew | refine pm_farN ?_ (by assumption) _)); exact HM.out)⟩⟩
                · rw [if_neg c10] at H
                  exact absurd H (by simp)
              · rw [if_neg c9] at H
                exact absurd H (by simp)
            · rw [if_neg c8] at H
              exact absurd H (by simp)
          · rw [if_neg c7] at H
            have c7b0 : decide (x22_1 < (l0.length : Int)) = false := decide_eq_false c7
            replace HM : Aside0 (PM _ bm l0) := ⟨pm_all HM.out (of_decide_eq_false c7b0)⟩
            clear c7
            have H' := Aside0.mk H
            clear H
            go_wp2
            go_loopg [36] k1 (fun kq v36 w' => ∃ (x6_2 : List Int) (x36_2 : Int), v36 = .int .i64 x36_2 ∧ Aside0 (impl_parts__impl_trianglesAround.l1 kq l0 x6_2 (l0.length : Int) x36_2 = some r) ∧ Aside0 (kq ≤ k1) ∧ Aside0 (Kd.R (Kd.int .i64) 2 w' w.heap.size (fun _ => True) v255 x6_2) ∧ Aside0 (Below w.heap.size w w') ∧ Aside0 (PM w' bm l0))
            case atStart => exact ⟨(x6_1), (0), (by first | rfl | (simp; done) | (simp [*]; done)), H', ⟨Nat.le_refl _⟩, ⟨by (with_reducible repeat (first | apply Kd.R_alloc | apply Kd.R_drewN | apply Kd.R_drew)); exact HO_6.out⟩, ⟨by repeat (first | (with_reducible first | exact HB.out | apply below_alloc | apply pw_below_drewN | apply below_drew1) | exact HB.out)⟩, ⟨(by (with_reducible repeat (first | apply pm_alloc | apply pm_drewN | apply pm_drew | refine pm_farN ?_ (by assumption) _)); exact HM.out)⟩⟩
            case round =>
              clear H'
              try clear c1
              try clear p1
              try clear q1
              try clear hx1
              try clear p2
              try clear q2
              try clear hx2
              try clear c3
              try clear c3b0
              try clear c3b1
              try clear c4
              try clear c4b0
              try clear c4b1
              try clear p6
              try clear c7
              try clear c7b0
              try clear c8
              try clear c8b0
              try clear c9
              try clear c9b0
              try clear c10
              try clear c10b0
              try clear p11
              try clear q11
              try clear hx11
              try clear hf11
              try clear hcz13_0
              try clear hcz13_1
              try clear hcz15_0
              try clear hcz15_1
              try clear hfz13_0
              try clear hfz13_1
              try clear hfz15_0
              try clear hfz15_1
              try clear hx11_0
              try clear hx257_0
              try clear hx257_1
              try clear p11
              try clear p2
              try clear p257
              try clear q11
              try clear q257
              obtain ⟨x6_2, x36_2, rfl, HA, HK2, HO_6, HB, HM⟩ := hrel
              cases gk with
              | zero => exact absurd HA.out (by simp [impl_parts__impl_trianglesAround.l1])
              | succ k2 =>
                have H := HA.out
                clear HA
                simp only [impl_parts__impl_trianglesAround.l1] at H
                by_cases c18 : x36_2 < (l0.length : Int)
                · rw [if_pos c18] at H
                  have c18b0 : decide (x36_2 < (l0.length : Int)) = true := decide_eq_true c18
                  clear c18
                  by_cases c19 : 0 ≤ x36_2
                  · rw [if_pos c19] at H
                    have c19b0 : decide (0 ≤ x36_2) = true := decide_eq_true c19
                    clear c19
                    by_cases c20 : x36_2 < (x6_2.length : Int)
                    · rw [if_pos c20] at H
                      have c20b0 : decide (x36_2 < (x6_2.length : Int)) = true := decide_eq_true c20
                      clear c20
                      by_cases c21 : (rd x6_2 x36_2) ≥ 0
                      · rw [if_pos c21] at H
                        have c21b0 : decide (0 ≤ (rd x6_2 x36_2)) = true := decide_eq_true c21
                        clear c21
                        have H' := Aside0.mk H
                        clear H
                        obtain ⟨Ao22, co22, eo22⟩ := Kd.R_slice HO_6.out
                        subst eo22
                        have p260 : 0 ≤ (x36_2 : Int) := of_decide_eq_true (by first | (with_reducible assumption) | assumption)
                        have q260 : x36_2 < (x6_2.length : Int) := of_decide_eq_true (by first | (with_reducible assumption) | assumption)
                        obtain ⟨ad260, e260, hx260_0⟩ := Kd.at_int (Kd.R_reads' HO_6.out).2.2 x36_2 p260 q260
                        cases e260
                        replace p260 := eq_true p260
                        replace q260 := eq_true q260
                        go_wp2
                        go_roundg k2
                        case measure => have := HK1.out; have := HK2.out; omega
                        case rel => exact ⟨(x6_2), (wrap64 (x36_2 + 1)), (by first | rfl | (simp; done) | (simp [*]; done)), H', ⟨by have := HK1.out; have := HK2.out; omega⟩, ⟨by (with_reducible repeat (first | apply Kd.R_alloc | apply Kd.R_drewN | apply Kd.R_drew)); exact HO_6.out⟩, ⟨by repeat (first | (with_reducible first | exact HB.out | apply below_alloc | apply pw_below_drewN | apply below_drew1) | exact HB.out)⟩, ⟨(by (with_reducible repeat (first | apply pm_alloc | apply pm_drewN | apply pm_drew | refine pm_farN ?_ (by assumption) _)); exact HM.out)⟩⟩
                      · rw [if_neg c21] at H
                        have c21b0 : decide (0 ≤ (rd x6_2 x36_2)) = false := decide_eq_false c21
                        clear c21
                        obtain ⟨y261, hy261⟩ : ∃ y_ : List Int, y_ = (x6_2.set (x36_2 : Int).toNat x36_2) := ⟨_, rfl⟩
                        replace H : (impl_parts__impl_trianglesAround.l2 k2 l0 y261 x36_2 (([x36_2] : List Int)) 0 (l0.length : Int) x36_2) = some r := by first | (rw [hy261]; with_reducible exact H) | (have H2_ := (Option.bind_some _ _).symm.trans H; rw [hy261]; with_reducible exact H2_) | (have H2_ := (Option.bind_some _ _).symm.trans H; with_reducible exact H2_) | with_reducible exact H | (rw [hy261]; exact H) | exact H
                        have Ny261 := Aside0.mk hy261
                        clear hy261
                        obtain ⟨y262, hy262⟩ : ∃ y_ : List Int, y_ = (([x36_2] : List Int)) := ⟨_, rfl⟩
                        replace H : (impl_parts__impl_trianglesAround.l2 k2 l0 y261 x36_2 y262 0 (l0.length : Int) x36_2) = some r := by first | (rw [hy262]; with_reducible exact H) | (have H2_ := (Option.bind_some _ _).symm.trans H; rw [hy262]; with_reducible exact H2_) | (have H2_ := (Option.bind_some _ _).symm.trans H; with_reducible exact H2_) | with_reducible exact H | (rw [hy262]; exact H) | exact H
                        have Ny262 := Aside0.mk hy262
                        clear hy262
                        have H' := Aside0.mk H
                        clear H
                        obtain ⟨Ao24, co24, eo24⟩ := Kd.R_slice HO_6.out
                        subst eo24
                        have p260 : 0 ≤ (x36_2 : Int) := of_decide_eq_true (by first | (with_reducible assumption) | assumption)
                        have q260 : x36_2 < (x6_2.length : Int) := of_decide_eq_true (by first | (with_reducible assumption) | assumption)
                        obtain ⟨ad260, e260, hx260_0⟩ := Kd.at_int (Kd.R_reads' HO_6.out).2.2 x36_2 p260 q260
                        cases e260
                        replace p260 := eq_true p260
                        replace q260 := eq_true q260
                        have p23 : 0 ≤ (x36_2 : Int) := of_decide_eq_true (by first | (with_reducible assumption) | assumption)
                        have q23 : (x36_2 : Int) < ((x6_2.length : Int) : Int) := of_decide_eq_true (by first | (with_reducible assumption) | assumption)
                        obtain ⟨go23, co23, eo23, gb23, gl23, cl23, HG23⟩ := Kd.R_form HO_6.out (by omega)
                        (first | cases eo23 | (injection eo23 with ea_ en_ ec_; (first | subst ea_ | (injection ea_ with ea_; subst ea_)); subst ec_; clear en_))
                        have GB23 := Aside0.mk gb23
                        have GG23 := Aside0.mk HG23
                        clear gb23 gl23 HG23
                        (first | simp only [add_plain] at hx260_0 | skip)
                        obtain ⟨hx23_0, hf23_0⟩ := Kd.R_celln 0 HO_6.out (x36_2 : Int) p23 q23
                        replace p23 := eq_true p23
                        replace q23 := eq_true q23
                        have HP25 := Kd.R_putg HO_6.out (x36_2 : Int) x36_2
                        go_wp2_with (first | ((with_reducible refine gate_store (t := 2) (p := 47) rfl ?_); refine store_event (t := 2) (p := 47) (v := ?vo_w26) (w1 := (wr.setCell ⟨go23, (x36_2 : Int).toNat, none⟩ (.int .i64 x36_2))) ?hg ?ho ?hn ?hr ?_; (case ho => rfl); (case hg => rfl); (case hn => rfl); (case hr => first | (go_simp; done) | (go_simp; rfl)); intro w26 hw; have hg : wr.grownBy w26 (some go23) := (by rw [hw]; exact HP25.2); have m0_ := Aside0.mk (pm_kept (row := some go23) HM.out hg (pm_row HM.out HO_6.out)); clear HM; have HM := m0_; clear m0_; have hp_ : Kd.R (Kd.int .i64) 2 w26 w.heap.size (fun _ => True) (.slice (some ⟨go23, 0, none⟩) x6_2.length co24) y261 := (by rw [hw, Ny261.out]; exact HP25.1); clear HP25; have n0_ := Aside0.mk (hp_); have n1_ := Aside0.mk ((by rw [hw]; exact below_set (HB.out) GB23.out : Below w.heap.size w w26)); clear HO_6; clear HB; have HO_6 := n0_; have HB := n1_; clear n0_ n1_; clear hg hw hp_) | ((with_reducible refine gate_dst (N := 49) rfl ?_); refine Kd.R_lit (Kd.int .i64) _ 3 ?hg (N := 49) ?hd (xs := ([x36_2] : List Int)) (inner := [.int .i64 x36_2]) (ok := fun _ => True) (okp := fun _ => True) ?hr ?hp (fun _ hk => hk) trivial (Below.refl _ _) (Nat.le_refl _) (by simp) ?_; (case hd => rfl); (case hg => rfl); (case hr => first | (go_simp; done) | (go_simp; rfl)); (case hp => exact (Reps.one (show Kd.M (Kd.int .i64) _ _ _ x36_2 [.int .i64 x36_2] from rfl) (Reps.none _ _))); intro v263 w27 ho28 hb hg_ hnew_; clear hg_ hnew_; have m0_ := Aside0.mk (pm_step (by (with_reducible repeat (first | apply pm_alloc | apply pm_drewN | apply pm_drew | refine pm_farN ?_ (by assumption) _)); exact HM.out) hb); clear HM; have HM := m0_; clear m0_; (first | rw [← Ny262.out] at ho28 | (simp only [Int.reduceToNat] at ho28; rw [← Ny262.out] at ho28)); have n0_ := Aside0.mk (Kd.R_below (by (with_reducible repeat (first | apply Kd.R_alloc | apply Kd.R_drewN | apply Kd.R_drew)); exact HO_6.out) hb); have n1_ := Aside0.mk (Kd.R_lower ho28 (below_size (by repeat (first | (with_reducible first | exact HB.out | apply below_alloc | apply pw_below_drewN | apply below_drew1) | exact HB.out)))); have n2_ := Aside0.mk (below_step (by repeat (first | (with_reducible first | exact HB.out | apply below_alloc | apply pw_below_drewN | apply below_drew1) | exact HB.out)) hb); clear HO_6; clear HB; have HO_6 := n0_; have HO264 := n1_; have HB := n2_; clear n0_ n1_ n2_; clear hb ho28))
                        go_loopg [10, 11] k2 (fun kq v10 v11 w' => ∃ (x6_3 : List Int) (x10_3 : List Int) (x11_3 : Int), v11 = .int .i64 x11_3 ∧ Aside0 (impl_parts__impl_trianglesAround.l2 kq l0 x6_3 x36_2 x10_3 x11_3 (l0.length : Int) x36_2 = some r) ∧ Aside0 (kq ≤ k2) ∧ Aside0 (Kd.R (Kd.int .i64) 2 w' w.heap.size (fun _ => True) (.slice (some ⟨go23, 0, none⟩) x6_2.length co24) x6_3) ∧ Aside0 (Kd.R (Kd.int .i64) 3 w' w.heap.size (fun _ => True) v10 x10_3) ∧ Aside0 (Below w.heap.size w w') ∧ Aside0 (PM w' bm l0))
                        case atStart => exact ⟨(y261), (y262), (0), (by first | rfl | (simp; done) | (simp [*]; done)), H', ⟨Nat.le_refl _⟩, ⟨by (with_reducible repeat (first | apply Kd.R_alloc | apply Kd.R_drewN | apply Kd.R_drew)); exact HO_6.out⟩, ⟨by (with_reducible repeat (first | apply Kd.R_alloc | apply Kd.R_drewN | apply Kd.R_drew)); exact HO264.out⟩, ⟨by repeat (first | (with_reducible first | exact HB.out | apply below_alloc | apply pw_below_drewN | apply below_drew1) | exact HB.out)⟩, ⟨(by (with_reducible repeat (first | apply pm_alloc | apply pm_drewN | apply pm_drew | refine pm_farN ?_ (by assumption) _)); exact HM.out)⟩⟩
                        case round =>
                          clear H'
                          try clear c1
                          try clear p1
                          try clear q1
                          try clear hx1
                          try clear c2
                          try clear p2
                          try clear q2
                          try clear hx2
                          try clear hf2
                          try clear c3
                          try clear c3b0
                          try clear c3b1
                          try clear c4
                          try clear c4b0
                          try clear c4b1
                          try clear p6
                          try clear c7
                          try clear c7b0
                          try clear c8
                          try clear c8b0
                          try clear c9
                          try clear c9b0
                          try clear c10
                          try clear c10b0
                          try clear p11
                          try clear q11
                          try clear hx11
                          try clear hf11
                          try clear c18
                          try clear c18b0
                          try clear c19
                          try clear c19b0
                          try clear c20
                          try clear c20b0
                          try clear c21
                          try clear c21b0
                          try clear p23
                          try clear q23
                          try clear hx23
                          try clear hf23
                          try clear p25
                          try clear q25
                          try clear hx25
                          try clear p26
                          try clear q26
                          try clear hx26
                          try clear hcz13_0
                          try clear hcz13_1
                          try clear hcz15_0
                          try clear hcz15_1
                          try clear hfz13_0
                          try clear hfz13_1
                          try clear hfz15_0
                          try clear hfz15_1
                          try clear hx11_0
                          try clear hx23_0
                          try clear hx257_0
                          try clear hx257_1
                          try clear hx260_0
                          try clear p1
                          try clear p11
                          try clear p2
                          try clear p23
                          try clear p257
                          try clear p260
                          try clear p6
                          try clear q1
                          try clear q11
                          try clear q2
                          try clear q23
                          try clear q257
                          try clear q260
                          obtain ⟨x6_3, x10_3, x11_3, rfl, HA, HK3, HO_6, HO_10, HB, HM⟩ := hrel
                          have hl6_3 := (Kd.R_reads' HO_6.out).1
                          rw [hl6_3] at HO_6
                          (try simp only [hl6_3])
                          (try simp only [hl6_3] at HO_10)
                          cases gk with
                          | zero => exact absurd HA.out (by simp [impl_parts__impl_trianglesAround.l2])
                          | succ k3 =>
                            have H := HA.out
                            clear HA
                            simp only [impl_parts__impl_trianglesAround.l2] at H
                            by_cases c29 : x11_3 < (x10_3.length : Int)
                            · rw [if_pos c29] at H
                              have c29b0 : decide (x11_3 < (x10_3.length : Int)) = true := decide_eq_true c29
                              clear c29
                              by_cases c30 : 0 ≤ x11_3
                              · rw [if_pos c30] at H
                                have c30b0 : decide (0 ≤ x11_3) = true := decide_eq_true c30
                                clear c30
                                by_cases c31 : 0 ≤ (rd x10_3 x11_3)
                                · rw [if_pos c31] at H
                                  have c31b0 : decide (0 ≤ (rd x10_3 x11_3)) = true := decide_eq_true c31
                                  clear c31
                                  by_cases c32 : (rd x10_3 x11_3) < (l0.length : Int)
                                  · rw [if_pos c32] at H
                                    have c32b0 : decide ((rd x10_3 x11_3) < (l0.length : Int)) = true := decide_eq_true c32
                                    clear c32
                                    replace H := Option.bind_eq_some_iff.mp H
                                    obtain ⟨t267, A330, H⟩ := H
                                    replace H : (impl_parts__impl_trianglesAround.l3 k3 l0 x6_3 x36_2 x10_3 x11_3 (l0.length : Int) x36_2 t267 (t267.length : Int) 0) = some r := H
                                    have A33 := Aside0.mk A330
                                    clear A330
                                    have H' := Aside0.mk H
                                    clear H
                                    obtain ⟨Ao34, co34, eo34⟩ := Kd.R_slice HO_10.out
                                    subst eo34
                                    have p265 : 0 ≤ (x11_3 : Int) := of_decide_eq_true (by first | (with_reducible assumption) | assumption)
                                    have q265 : x11_3 < (x10_3.length : Int) := of_decide_eq_true (by first | (with_reducible assumption) | assumption)
                                    obtain ⟨ad265, e265, hx265_0⟩ := Kd.at_int (Kd.R_reads' HO_10.out).2.2 x11_3 p265 q265
                                    cases e265
                                    replace p265 := eq_true p265
                                    replace q265 := eq_true q265
                                    have p266 : 0 ≤ ((rd x10_3 x11_3) : Int) := of_decide_eq_true (by first | (with_reducible assumption) | assumption)
                                    have q266 : (rd x10_3 x11_3) < (l0.length : Int) := of_decide_eq_true (by first | (with_reducible assumption) | assumption)
                                    obtain ⟨ad266, e266, hx266_0, hx266_1⟩ := at_T27 HR0.out (rd x10_3 x11_3) p266 q266
                                    cases e266
                                    replace hx266_0 := (HB.out.cell (World.block_lt_of_cell? w _ hx266_0)).trans hx266_0
                                    replace hx266_1 := (HB.out.cell (World.block_lt_of_cell? w _ hx266_1)).trans hx266_1
                                    replace p266 := eq_true p266
                                    replace q266 := eq_true q266
                                    go_wp2_with (first | (go_at_call 61; (with_reducible refine (impl_trianglesAround.calls ((rd_T27 l0 (rd x10_3 x11_3)).f0) ((rd_T27 l0 (rd x10_3 x11_3)).f1) t267 _ A33.out).mono ?_); rintro e w35 ⟨v268, rfl, ho0, hb⟩; have m0_ := Aside0.mk (pm_step (by (with_reducible repeat (first | apply pm_alloc | apply pm_drewN | apply pm_drew | refine pm_farN ?_ (by assumption) _)); exact HM.out) hb); clear HM; have HM := m0_; clear m0_; have n0_ := Aside0.mk (Kd.R_below (by (with_reducible repeat (first | apply Kd.R_alloc | apply Kd.R_drewN | apply Kd.R_drew)); exact HO_6.out) hb); have n1_ := Aside0.mk (Kd.R_below (by (with_reducible repeat (first | apply Kd.R_alloc | apply Kd.R_drewN | apply Kd.R_drew)); exact HO_10.out) hb); have n2_ := Aside0.mk (Kd.R_lower ho0 (below_size (by repeat (first | (with_reducible first | exact HB.out | apply below_alloc | apply pw_below_drewN | apply below_drew1) | exact HB.out)))); have n3_ := Aside0.mk (below_step (by repeat (first | (with_reducible first | exact HB.out | apply below_alloc | apply pw_below_drewN | apply below_drew1) | exact HB.out)) hb); clear HO_6; clear HO_10; clear HB; have HO_6 := n0_; have HO_10 := n1_; have HO269 := n2_; have HB := n3_; clear n0_ n1_ n2_ n3_; (try clear hb); (try clear hb2); (try clear hk); (try clear hi); (try clear ho0); obtain ⟨Ao36, co36, eo36⟩ := Kd.R_slice HO269.out; subst eo36))
                                    go_loopg [10, 66] k3 (fun kq v10 v66 w' => ∃ (x6_4 : List Int) (x10_4 : List Int) (x66_4 : Int), v66 = .int .i64 x66_4 ∧ Aside0 (impl_parts__impl_trianglesAround.l3 kq l0 x6_4 x36_2 x10_4 x11_3 (l0.length : Int) x36_2 t267 (t267.length : Int) x66_4 = some r) ∧ Aside0 (kq ≤ k3) ∧ Aside0 (Kd.R (Kd.int .i64) 2 w' w.heap.size (fun _ => True) (.slice (some ⟨go23, 0, none⟩) x6_3.length co24) x6_4) ∧ Aside0 (Kd.R (Kd.int .i64) 3 w' w.heap.size (fun _ => True) v10 x10_4) ∧ Aside0 (Kd.R k27 27 w' w.heap.size (fun _ => True) (.slice Ao36 t267.length co36) t267) ∧ Aside0 (Below w.heap.size w w') ∧ Aside0 (PM w' bm l0))
                                    case atStart => exact ⟨(x6_3), (x10_3), (0), (by first | rfl | (simp; done) | (simp [*]; done)), H', ⟨Nat.le_refl _⟩, ⟨by (try simp only [hl6_3]); (with_reducible repeat (first | apply Kd.R_alloc | apply Kd.R_drewN | apply Kd.R_drew)); exact HO_6.out⟩, ⟨by (try simp only [hl6_3]); (with_reducible repeat (first | apply Kd.R_alloc | apply Kd.R_drewN | apply Kd.R_drew)); exact HO_10.out⟩, ⟨by (try simp only [hl6_3]); (with_reducible repeat (first | apply Kd.R_alloc | apply Kd.R_drewN | apply Kd.R_drew)); exact HO269.out⟩, ⟨by repeat (first | (with_reducible first | exact HB.out | apply below_alloc | apply pw_below_drewN | apply below_drew1) | exact HB.out)⟩, ⟨(by (with_reducible repeat (first | apply pm_alloc | apply pm_drewN | apply pm_drew | refine pm_farN ?_ (by assumption) _)); exact HM.out)⟩⟩
                                    case round =>
                                      clear H'
                                      try clear c1
                                      try clear p1
                                      try clear q1
                                      try clear hx1
                                      try clear c2
                                      try clear p2
                                      try clear q2
                                      try clear hx2
                                      try clear hf2
                                      try clear c3
                                      try clear c3b0
                                      try clear c3b1
                                      try clear c4
                                      try clear c4b0
                                      try clear c4b1
                                      try clear p6
                                      try clear c7
                                      try clear c7b0
                                      try clear c8
                                      try clear c8b0
                                      try clear c9
                                      try clear c9b0
                                      try clear c10
                                      try clear c10b0
                                      try clear p11
                                      try clear q11
                                      try clear hx11
                                      try clear hf11
                                      try clear c18
                                      try clear c18b0
                                      try clear c19
                                      try clear c19b0
                                      try clear c20
                                      try clear c20b0
                                      try clear c21
                                      try clear c21b0
                                      try clear p23
                                      try clear q23
                                      try clear hx23
                                      try clear hf23
                                      try clear p25
                                      try clear q25
                                      try clear hx25
                                      try clear p26
                                      try clear q26
                                      try clear hx26
                                      try clear c29
                                      try clear c29b0
                                      try clear c30
                                      try clear c30b0
                                      try clear c31
                                      try clear c31b0
                                      try clear c32
                                      try clear c32b0
                                      try clear hcz13_0
                                      try clear hcz13_1
                                      try clear hcz15_0
                                      try clear hcz15_1
                                      try clear hfz13_0
                                      try clear hfz13_1
                                      try clear hfz15_0
                                      try clear hfz15_1
                                      try clear hx11_0
                                      try clear hx23_0
                                      try clear hx257_0
                                      try clear hx257_1
                                      try clear hx260_0
                                      try clear hx265_0
                                      try clear hx266_0
                                      try clear hx266_1
                                      try clear p1
                                      try clear p11
                                      try clear p2
                                      try clear p23
                                      try clear p25
                                      try clear p257
                                      try clear p26
                                      try clear p260
                                      try clear p265
                                      try clear p266
                                      try clear p6
                                      try clear q1
                                      try clear q11
                                      try clear q2
                                      try clear q23
                                      try clear q25
                                      try clear q257
                                      try clear q26
                                      try clear q260
                                      try clear q265
                                      try clear q266
                                      obtain ⟨x6_4, x10_4, x66_4, rfl, HA, HK4, HO_6, HO_10, HO_64, HB, HM⟩ := hrel
                                      have hl6_4 := (Kd.R_reads' HO_6.out).1
                                      rw [hl6_4] at HO_6
                                      (try simp only [hl6_4])
                                      (try simp only [hl6_4] at HO_10)
                                      (try simp only [hl6_4] at HO_64)
                                      cases gk with
                                      | zero => exact absurd HA.out (by simp [impl_parts__impl_trianglesAround.l3])
                                      | succ k4 =>
                                        have H := HA.out
                                        clear HA
                                        simp only [impl_parts__impl_trianglesAround.l3] at H
                                        by_cases c37 : x66_4 < (t267.length : Int)
                                        · rw [if_pos c37] at H
                                          have c37b0 : decide (x66_4 < (t267.length : Int)) = true := decide_eq_true c37
                                          clear c37
                                          by_cases c38 : 0 ≤ x66_4
                                          · rw [if_pos c38] at H
                                            have c38b0 : decide (0 ≤ x66_4) = true := decide_eq_true c38
                                            clear c38
                                            by_cases c39 : x66_4 < (t267.length : Int)
                                            · rw [if_pos c39] at H
                                              have c39b0 : decide (x66_4 < (t267.length : Int)) = true := decide_eq_true c39
                                              clear c39
                                              replace H := Option.bind_eq_some_iff.mp H
                                              obtain ⟨⟨t272, t273⟩, A400, H⟩ := H
                                              replace H : (if t273 = true then (if 0 ≤ t272 then (if t272 < (x6_4.length : Int) then (if (rd x6_4 t272) < 0 then (if x10_4.length < 17592186044416 then (impl_parts__impl_trianglesAround.l3 k4 l0 (x6_4.set (t272 : Int).toNat x36_2) x36_2 (x10_4 ++ [t272]) x11_3 (l0.length : Int) x36_2 t267 (t267.length : Int) (wrap64 (x66_4 + 1))) else (none)) else (impl_parts__impl_trianglesAround.l3 k4 l0 x6_4 x36_2 x10_4 x11_3 (l0.length : Int) x36_2 t267 (t267.length : Int) (wrap64 (x66_4 + 1)))) else (none)) else (none)) else (impl_parts__impl_trianglesAround.l3 k4 l0 x6_4 x36_2 x10_4 x11_3 (l0.length : Int) x36_2 t267 (t267.length : Int) (wrap64 (x66_4 + 1)))) = some r := H
                                              have A40 := Aside0.mk A400
                                              clear A400
                                              by_cases c41 : t273 = true
                                              · subst c41
                                                have H1 : (if 0 ≤ t272 then (if t272 < (x6_4.length : Int) then (if (rd x6_4 t272) < 0 then (if x10_4.length < 17592186044416 then (impl_parts__impl_trianglesAround.l3 k4 l0 (x6_4.set (t272 : Int).toNat x36_2) x36_2 (x10_4 ++ [t272]) x11_3 (l0.length : Int) x36_2 t267 (t267.length : Int) (wrap64 (x66_4 + 1))) else (none)) else (impl_parts__impl_trianglesAround.l3 k4 l0 x6_4 x36_2 x10_4 x11_3 (l0.length : Int) x36_2 t267 (t267.length : Int) (wrap64 (x66_4 + 1)))) else (none)) else (none)) = some r := by rw [if_pos rfl] at H; exact H
                                                clear H
                                                have H := H1
                                                clear H1
                                                by_cases c42 : 0 ≤ t272
                                                · rw [if_pos c42] at H
                                                  have c42b0 : decide (0 ≤ t272) = true := decide_eq_true c42
                                                  clear c42
                                                  by_cases c43 : t272 < (x6_4.length : Int)
                                                  · rw [if_pos c43] at H
                                                    have c43b0 : decide (t272 < (x6_4.length : Int)) = true := decide_eq_true c43
                                                    clear c43
                                                    by_cases c44 : (rd x6_4 t272) < 0
                                                    · rw [if_pos c44] at H
                                                      have c44b0 : decide ((rd x6_4 t272) < 0) = true := decide_eq_true c44
                                                      clear c44
                                                      obtain ⟨y275, hy275⟩ : ∃ y_ : List Int, y_ = (x6_4.set (t272 : Int).toNat x36_2) := ⟨_, rfl⟩
                                                      replace H : (if x10_4.length < 17592186044416 then (impl_parts__impl_trianglesAround.l3 k4 l0 y275 x36_2 (x10_4 ++ [t272]) x11_3 (l0.length : Int) x36_2 t267 (t267.length : Int) (wrap64 (x66_4 + 1))) else (none)) = some r := by first | (rw [hy275]; with_reducible exact H) | (have H2_ := (Option.bind_some _ _).symm.trans H; rw [hy275]; with_reducible exact H2_) | (have H2_ := (Option.bind_some _ _).symm.trans H; with_reducible exact H2_) | with_reducible exact H | (rw [hy275]; exact H) | exact H
                                                      have Ny275 := Aside0.mk hy275
                                                      clear hy275
                                                      by_cases c46 : x10_4.length < 17592186044416
                                                      · rw [if_pos c46] at H
                                                        have LMc46 := Aside0.mk c46
                                                        clear c46
                                                        obtain ⟨y276, hy276⟩ : ∃ y_ : List Int, y_ = (x10_4 ++ [t272]) := ⟨_, rfl⟩
                                                        replace H : (impl_parts__impl_trianglesAround.l3 k4 l0 y275 x36_2 y276 x11_3 (l0.length : Int) x36_2 t267 (t267.length : Int) (wrap64 (x66_4 + 1))) = some r := by first | (rw [hy276]; with_reducible exact H) | (have H2_ := (Option.bind_some _ _).symm.trans H; rw [hy276]; with_reducible exact H2_) | (have H2_ := (Option.bind_some _ _).symm.trans H; with_reducible exact H2_) | with_reducible exact H | (rw [hy276]; exact H) | exact H
                                                        have Ny276 := Aside0.mk hy276
                                                        clear hy276
                                                        have H' := Aside0.mk H
                                                        clear H
                                                        have p270 : 0 ≤ (x66_4 : Int) := of_decide_eq_true (by first | (with_reducible assumption) | assumption)
                                                        have q270 : x66_4 < (t267.length : Int) := of_decide_eq_true (by first | (with_reducible assumption) | assumption)
                                                        obtain ⟨ad270, e270, hx270_0, hx270_1⟩ := at_T27 (Kd.R_reads' HO_64.out).2.2 x66_4 p270 q270
                                                        cases e270
                                                        replace p270 := eq_true p270
                                                        replace q270 := eq_true q270
                                                        go_wp2_with (first | ((with_reducible refine gate_dst (N := 13) rfl ?_); refine box_event ?hg (N := 13) ?hd (cs := #[.int .i64 0, .int .i64 0]) (t := 27) ?hr ?_; (case hd => rfl); (case hg => rfl); (case hr => first | (go_simp; done) | (go_simp; rfl)); intro gb271 hg w47 hbox hb; have hne271 : bm ≠ gb271 := (by rw [hg]; exact Nat.ne_of_lt (pm_lt (by (with_reducible repeat (first | apply pm_alloc | apply pm_drewN | apply pm_drew | refine pm_farN ?_ (by assumption) _)); exact HM.out))); have m0_ := Aside0.mk (pm_step (by (with_reducible repeat (first | apply pm_alloc | apply pm_drewN | apply pm_drew | refine pm_farN ?_ (by assumption) _)); exact HM.out) hb); clear HM; have HM := m0_; clear m0_; have n0_ := Aside0.mk (Kd.R_below (by (with_reducible repeat (first | apply Kd.R_alloc | apply Kd.R_drewN | apply Kd.R_drew)); exact HO_6.out) hb); have n1_ := Aside0.mk (Kd.R_below (by (with_reducible repeat (first | apply Kd.R_alloc | apply Kd.R_drewN | apply Kd.R_drew)); exact HO_10.out) hb); have n2_ := Aside0.mk (Kd.R_below (Kd.R_elderB (by (with_reducible repeat (first | apply Kd.R_alloc | apply Kd.R_drewN | apply Kd.R_drew)); exact HO_64.out) gb271 (Nat.le_of_eq hg.symm)) hb); have n3_ := Aside0.mk (below_step (by repeat (first | (with_reducible first | exact HB.out | apply below_alloc | apply pw_below_drewN | apply below_drew1) | exact HB.out)) hb); have n4_ := Aside0.mk (hbox); have n5_ := Aside0.mk ((by rw [hg]; exact (below_size (by repeat (first | (with_reducible first | exact HB.out | apply below_alloc | apply pw_below_drewN | apply below_drew1) | exact HB.out))) : w.heap.size ≤ gb271)); have n6_ := Aside0.mk ((by rw [hg]; exact (below_size (by repeat (first | (with_reducible first | exact HB.out | apply below_alloc | apply pw_below_drewN | apply below_drew1) | exact HB.out))) : w.heap.size ≤ gb271)); clear HO_6; clear HO_10; clear HO_64; clear HB; have HO_6 := n0_; have HO_10 := n1_; have HO_64 := n2_; have HB := n3_; have BK271 := n4_; have GW271 := n5_; have GE271 := n6_; clear n0_ n1_ n2_ n3_ n4_ n5_ n6_; clear hb hbox hg; have hcz48_0 : w47.cell? ⟨gb271, 0, none⟩ = some (.int .i64 0) := (blk_cell BK271.out 0).trans rfl; have hcz48_1 : w47.cell? ⟨gb271, 1, none⟩ = some (.int .i64 0) := (blk_cell BK271.out 1).trans rfl; have hfz48_0 := blk_frozen BK271.out 0; have hfz48_1 := blk_frozen BK271.out 1) | ((with_reducible refine gate_dst (N := 73) rfl ?_); refine pm_look rfl _ _ rfl rfl ?hM _ _ rfl A40.out ?_; (case hM => exact (by (with_reducible repeat (first | apply pm_alloc | apply pm_drewN | apply pm_drew | refine pm_farN ?_ (by assumption) _)); exact HM.out)); intro w49 hb m0h_; clear HM; have HM := Aside0.mk m0h_; clear m0h_; have n0_ := Aside0.mk (Kd.R_below (by (with_reducible repeat (first | apply Kd.R_alloc | apply Kd.R_drewN | apply Kd.R_drew)); exact (Kd.R_mono (Kd.R_far (p := ⟨gb271, 1, none⟩) (Kd.R_far (p := ⟨gb271, 0, none⟩) (Kd.R_types HO_6.out BK271.out (by decide)) (fun _ hk => hk.2) (.int .i64 ((rd_T27 t267 x66_4).f0))) (fun _ hk => hk.2) (.int .i64 ((rd_T27 t267 x66_4).f1))) (fun _ h_ => h_.1))) hb); have n1_ := Aside0.mk (Kd.R_below (by (with_reducible repeat (first | apply Kd.R_alloc | apply Kd.R_drewN | apply Kd.R_drew)); exact (Kd.R_mono (Kd.R_far (p := ⟨gb271, 1, none⟩) (Kd.R_far (p := ⟨gb271, 0, none⟩) (Kd.R_types HO_10.out BK271.out (by decide)) (fun _ hk => hk.2) (.int .i64 ((rd_T27 t267 x66_4).f0))) (fun _ hk => hk.2) (.int .i64 ((rd_T27 t267 x66_4).f1))) (fun _ h_ => h_.1))) hb); have n2_ := Aside0.mk (Kd.R_below (by (with_reducible repeat (first | apply Kd.R_alloc | apply Kd.R_drewN | apply Kd.R_drew)); exact (Kd.R_mono (Kd.R_far (p := ⟨gb271, 1, none⟩) (Kd.R_far (p := ⟨gb271, 0, none⟩) (Kd.R_mono HO_64.out (fun k_ hk => (⟨hk, hk.2⟩ : _ ∧ k_ ≠ gb271))) (fun _ hk => hk.2) (.int .i64 ((rd_T27 t267 x66_4).f0))) (fun _ hk => hk.2) (.int .i64 ((rd_T27 t267 x66_4).f1))) (fun _ h_ => h_.1))) hb); have n3_ := Aside0.mk (blk_below (g := gb271) (o := .cells #[.int .i64 ((rd_T27 t267 x66_4).f0), .int .i64 ((rd_T27 t267 x66_4).f1)] 27 (0, 0)) (by (with_reducible repeat (first | refine blk_drewN ?_ _ | refine blk_drew ?_ | refine blk_alloc ?_ _)); refine blk_put (cs := #[.int .i64 ((rd_T27 t267 x66_4).f0), .int .i64 0]) ?_ 1 _ rfl; (with_reducible repeat (first | refine blk_drewN ?_ _ | refine blk_drew ?_ | refine blk_alloc ?_ _)); refine blk_put (cs := #[.int .i64 0, .int .i64 0]) ?_ 0 _ rfl; (with_reducible repeat (first | refine blk_drewN ?_ _ | refine blk_drew ?_ | refine blk_alloc ?_ _)); exact BK271.out) hb); have n4_ := Aside0.mk (below_step (by repeat (first | (with_reducible first | exact HB.out | apply below_alloc | apply pw_below_drewN | apply below_drew1 | refine below_set ?_ GE271.out) | exact HB.out)) hb); clear HO_6; clear HO_10; clear HO_64; clear BK271; clear HB; have HO_6 := n0_; have HO_10 := n1_; have HO_64 := n2_; have BK271 := n3_; have HB := n4_; clear n0_ n1_ n2_ n3_ n4_; (try clear hb); (try clear hb2); (try clear hk); (try clear hi); have p274 : 0 ≤ (t272 : Int) := of_decide_eq_true (by first | (with_reducible assumption) | assumption); have q274 : t272 < (x6_4.length : Int) := of_decide_eq_true (by first | (with_reducible assumption) | assumption); obtain ⟨ad274, e274, hx274_0⟩ := Kd.at_int (Kd.R_reads' HO_6.out).2.2 t272 p274 q274; obtain rfl : (⟨go23, 0, none⟩ : Addr) = ad274 := (by injection e274); (first | simp only [add_plain] at hx274_0 | simp only [add_at] at hx274_0 | simp only [Addr.add, Nat.zero_add] at hx274_0 | skip); replace p274 := eq_true p274; replace q274 := eq_true q274; have p45 : 0 ≤ (t272 : Int) := of_decide_eq_true (by first | (with_reducible assumption) | assumption); have q45 : (t272 : Int) < ((x6_4.length : Int) : Int) := of_decide_eq_true (by first | (with_reducible assumption) | assumption); obtain ⟨hx45_0, hf45_0⟩ := Kd.R_celln 0 HO_6.out (t272 : Int) p45 q45; replace p45 := eq_true p45; replace q45 := eq_true q45; obtain ⟨hy50_, hz50_⟩ := Kd.R_celln 0 HO_6.out (t272 : Int) (of_decide_eq_true (by first | (with_reducible assumption) | assumption)) (of_decide_eq_true (by first | (with_reducible assumption) | assumption)); have HP50 := Kd.R_putg HO_6.out (t272 : Int) x36_2) | ((with_reducible refine gate_store (t := 2) (p := 87) rfl ?_); refine store_event (t := 2) (p := 87) (v := ?vo_w51) (w1 := (w49.setCell ⟨go23, (t272 : Int).toNat, none⟩ (.int .i64 x36_2))) ?hg ?ho ?hn ?hr ?_; (case ho => rfl); (case hg => rfl); (case hn => rfl); (case hr => first | (go_simp; done) | (go_simp; rfl)); intro w51 hw; have hg : w49.grownBy w51 (some go23) := (by rw [hw]; exact HP50.2); have m0_ := Aside0.mk (pm_kept (row := some go23) HM.out hg (pm_row HM.out HO_6.out)); clear HM; have HM := m0_; clear m0_; have hp_ : Kd.R (Kd.int .i64) 2 w51 w.heap.size (fun _ => True) (.slice (some ⟨go23, 0, none⟩) x6_4.length co24) y275 := (by rw [hw, Ny275.out]; exact HP50.1); clear HP50; have n0_ := Aside0.mk (hp_); have n1_ := Aside0.mk (Kd.R_over' (v := (.slice (some ⟨go23, 0, none⟩) x6_4.length co24)) (by (with_reducible repeat (first | apply Kd.R_alloc | apply Kd.R_drewN | apply Kd.R_drew)); exact HO_10.out) (Kd.R_typed HO_6.out) (by decide) hg); have n2_ := Aside0.mk (Kd.R_over' (v := (.slice (some ⟨go23, 0, none⟩) x6_4.length co24)) (by (with_reducible repeat (first | apply Kd.R_alloc | apply Kd.R_drewN | apply Kd.R_drew)); exact HO_64.out) (Kd.R_typed HO_6.out) (by decide) hg); have n3_ := Aside0.mk (blk_grown (g := gb271) (o := .cells #[.int .i64 ((rd_T27 t267 x66_4).f0), .int .i64 ((rd_T27 t267 x66_4).f1)] 27 (0, 0)) (by (with_reducible repeat (first | refine blk_drewN ?_ _ | refine blk_drew ?_ | refine blk_alloc ?_ _)); exact BK271.out) hg (Kd.R_ne HO_6.out BK271.out (by decide))); have n4_ := Aside0.mk ((by rw [hw]; exact below_set (HB.out) GB23.out : Below w.heap.size w w51)); clear HO_6; clear HO_10; clear HO_64; clear BK271; clear HB; have HO_6 := n0_; have HO_10 := n1_; have HO_64 := n2_; have BK271 := n3_; have HB := n4_; clear n0_ n1_ n2_ n3_ n4_; clear hg hw hp_) | ((with_reducible refine gate_builtin (b := .append) (xs := #[.tmp 88, .tmp 90]) rfl ?_); at_builtin; refine Kd.R_append (Kd.int .i64) (w0 := w) w.heap.size rfl (.tmp 88) (.tmp 90) 108 3 (.int .i64 0) 8 rfl Try.underlying108 info3 rfl (by decide) (by omega) u10 x10_4 t272 [.int .i64 t272] (fun _ => True) (fun _ => False) rfl rfl ?aP (fun _ hk => hk.elim) ?aF ?aO ?aB ?aS ?aL ?_; (case aP => exact rfl); (case aB => exact (by repeat (first | (with_reducible first | exact HB.out | apply below_alloc | apply pw_below_drewN | apply below_drew1 | refine below_set ?_ GE271.out) | exact HB.out))); (case aF => exact (fun _ _ => trivial)); (case aO => exact (by (with_reducible repeat (first | apply Kd.R_alloc | apply Kd.R_drewN | apply Kd.R_drew)); exact HO_10.out)); (case aS => exact (below_size (by repeat (first | (with_reducible first | exact HB.out | apply below_alloc | apply pw_below_drewN | apply below_drew1 | refine below_set ?_ GE271.out) | exact HB.out)))); (case aL => have := LMc46.out; omega); intro v277 w52 ho hb hg hat; have m0_ := Aside0.mk (pm_append (by (with_reducible repeat (first | apply pm_alloc | apply pm_drewN | apply pm_drew | refine pm_farN ?_ (by assumption) _)); exact HM.out) (by (with_reducible repeat (first | apply Kd.R_alloc | apply Kd.R_drewN | apply Kd.R_drew)); exact HO_10.out) hg); clear HM; have HM := m0_; clear m0_; rw [← Ny276.out] at ho; have n0_ := Aside0.mk (Kd.R_over' (by (with_reducible repeat (first | apply Kd.R_alloc | apply Kd.R_drewN | apply Kd.R_drew)); exact HO_6.out) (Kd.R_typed (by (with_reducible repeat (first | apply Kd.R_alloc | apply Kd.R_drewN | apply Kd.R_drew)); exact HO_10.out)) (by decide) hg); have n1_ := Aside0.mk (Kd.R_over' (by (with_reducible repeat (first | apply Kd.R_alloc | apply Kd.R_drewN | apply Kd.R_drew)); exact HO_64.out) (Kd.R_typed (by (with_reducible repeat (first | apply Kd.R_alloc | apply Kd.R_drewN | apply Kd.R_drew)); exact HO_10.out)) (by decide) hg); have n2_ := Aside0.mk (blk_grown (g := gb271) (o := .cells #[.int .i64 ((rd_T27 t267 x66_4).f0), .int .i64 ((rd_T27 t267 x66_4).f1)] 27 (0, 0)) (by (with_reducible repeat (first | refine blk_drewN ?_ _ | refine blk_drew ?_ | refine blk_alloc ?_ _)); exact BK271.out) hg (Kd.R_ne HO_10.out BK271.out (by decide))); have n3_ := Aside0.mk (hb); have n4_ := Aside0.mk (ho); clear HO_6; clear HO_64; clear BK271; clear HB; clear HO_10; have HO_6 := n0_; have HO_64 := n1_; have BK271 := n2_; have HB := n3_; have HO278 := n4_; clear n0_ n1_ n2_ n3_ n4_; clear ho hb hg hat))
                                                        (try simp only [← hl6_4])
                                                        go_roundg k4
                                                        case measure => have := HK1.out; have := HK2.out; have := HK3.out; have := HK4.out; omega
                                                        case rel => exact ⟨(y275), (y276), (wrap64 (x66_4 + 1)), (by first | rfl | (simp; done) | (simp [*]; done)), H', ⟨by have := HK1.out; have := HK2.out; have := HK3.out; have := HK4.out; omega⟩, ⟨by (try simp only [hl6_3]); (try simp only [hl6_4]); (with_reducible repeat (first | apply Kd.R_alloc | apply Kd.R_drewN | apply Kd.R_drew)); exact HO_6.out⟩, ⟨by (try simp only [hl6_3]); (try simp only [hl6_4]); (with_reducible repeat (first | apply Kd.R_alloc | apply Kd.R_drewN | apply Kd.R_drew)); exact HO278.out⟩, ⟨by (try simp only [hl6_3]); (try simp only [hl6_4]); (with_reducible repeat (first | apply Kd.R_alloc | apply Kd.R_drewN | apply Kd.R_drew)); exact Kd.R_mono HO_64.out (fun _ hk => trivial)⟩, ⟨by repeat (first | (with_reducible first | exact HB.out | apply below_alloc | apply pw_below_drewN | apply below_drew1 | refine below_set ?_ GE271.out) | exact HB.out)⟩, ⟨(by (with_reducible repeat (first | apply pm_alloc | apply pm_drewN | apply pm_drew | refine pm_farN ?_ (by assumption) _)); exact HM.out)⟩⟩
                                                      · rw [if_neg c46] at H
                                                        exact absurd H (by simp)
                                                    · rw [if_neg c44] at H
                                                      have c44b0 : decide ((rd x6_4 t272) < 0) = false := decide_eq_false c44
                                                      clear c44
                                                      have H' := Aside0.mk H
                                                      clear H
                                                      have p270 : 0 ≤ (x66_4 : Int) := of_decide_eq_true (by first | (with_reducible assumption) | assumption)
                                                      have q270 : x66_4 < (t267.length : Int) := of_decide_eq_true (by first | (with_reducible assumption) | assumption)
                                                      obtain ⟨ad270, e270, hx270_0, hx270_1⟩ := at_T27 (Kd.R_reads' HO_64.out).2.2 x66_4 p270 q270
                                                      cases e270
                                                      replace p270 := eq_true p270
                                                      replace q270 := eq_true q270
                                                      go_wp2_with (first | ((with_reducible refine gate_dst (N := 13) rfl ?_); refine box_event ?hg (N := 13) ?hd (cs := #[.int .i64 0, .int .i64 0]) (t := 27) ?hr ?_; (case hd => rfl); (case hg => rfl); (case hr => first | (go_simp; done) | (go_simp; rfl)); intro gb271 hg w53 hbox hb; have hne271 : bm ≠ gb271 := (by rw [hg]; exact Nat.ne_of_lt (pm_lt (by (with_reducible repeat (first | apply pm_alloc | apply pm_drewN | apply pm_drew | refine pm_farN ?_ (by assumption) _)); exact HM.out))); have m0_ := Aside0.mk (pm_step (by (with_reducible repeat (first | apply pm_alloc | apply pm_drewN | apply pm_drew | refine pm_farN ?_ (by assumption) _)); exact HM.out) hb); clear HM; have HM := m0_; clear m0_; have n0_ := Aside0.mk (Kd.R_below (by (with_reducible repeat (first | apply Kd.R_alloc | apply Kd.R_drewN | apply Kd.R_drew)); exact HO_6.out) hb); have n1_ := Aside0.mk (Kd.R_below (by (with_reducible repeat (first | apply Kd.R_alloc | apply Kd.R_drewN | apply Kd.R_drew)); exact HO_10.out) hb); have n2_ := Aside0.mk (Kd.R_below (Kd.R_elderB (by (with_reducible repeat (first | apply Kd.R_alloc | apply Kd.R_drewN | apply Kd.R_drew)); exact HO_64.out) gb271 (Nat.le_of_eq hg.symm)) hb); have n3_ := Aside0.mk (below_step (by repeat (first | (with_reducible first | exact HB.out | apply below_alloc | apply pw_below_drewN | apply below_drew1) | exact HB.out)) hb); have n4_ := Aside0.mk (hbox); have n5_ := Aside0.mk ((by rw [hg]; exact (below_size (by repeat (first | (with_reducible first | exact HB.out | apply below_alloc | apply pw_below_drewN | apply below_drew1) | exact HB.out))) : w.heap.size ≤ gb271)); have n6_ := Aside0.mk ((by rw [hg]; exact (below_size (by repeat (first | (with_reducible first | exact HB.out | apply below_alloc | apply pw_below_drewN | apply below_drew1) | exact HB.out))) : w.heap.size ≤ gb271)); clear HO_6; clear HO_10; clear HO_64; clear HB; have HO_6 := n0_; have HO_10 := n1_; have HO_64 := n2_; have HB := n3_; have BK271 := n4_; have GW271 := n5_; have GE271 := n6_; clear n0_ n1_ n2_ n3_ n4_ n5_ n6_; clear hb hbox hg; have hcz54_0 : w53.cell? ⟨gb271, 0, none⟩ = some (.int .i64 0) := (blk_cell BK271.out 0).trans rfl; have hcz54_1 : w53.cell? ⟨gb271, 1, none⟩ = some (.int .i64 0) := (blk_cell BK271.out 1).trans rfl; have hfz54_0 := blk_frozen BK271.out 0; have hfz54_1 := blk_frozen BK271.out 1) | ((with_reducible refine gate_dst (N := 73) rfl ?_); refine pm_look rfl _ _ rfl rfl ?hM _ _ rfl A40.out ?_; (case hM => exact (by (with_reducible repeat (first | apply pm_alloc | apply pm_drewN | apply pm_drew | refine pm_farN ?_ (by assumption) _)); exact HM.out)); intro w55 hb m0h_; clear HM; have HM := Aside0.mk m0h_; clear m0h_; have n0_ := Aside0.mk (Kd.R_below (by (with_reducible repeat (first | apply Kd.R_alloc | apply Kd.R_drewN | apply Kd.R_drew)); exact (Kd.R_mono (Kd.R_far (p := ⟨gb271, 1, none⟩) (Kd.R_far (p := ⟨gb271, 0, none⟩) (Kd.R_types HO_6.out BK271.out (by decide)) (fun _ hk => hk.2) (.int .i64 ((rd_T27 t267 x66_4).f0))) (fun _ hk => hk.2) (.int .i64 ((rd_T27 t267 x66_4).f1))) (fun _ h_ => h_.1))) hb); have n1_ := Aside0.mk (Kd.R_below (by (with_reducible repeat (first | apply Kd.R_alloc | apply Kd.R_drewN | apply Kd.R_drew)); exact (Kd.R_mono (Kd.R_far (p := ⟨gb271, 1, none⟩) (Kd.R_far (p := ⟨gb271, 0, none⟩) (Kd.R_types HO_10.out BK271.out (by decide)) (fun _ hk => hk.2) (.int .i64 ((rd_T27 t267 x66_4).f0))) (fun _ hk => hk.2) (.int .i64 ((rd_T27 t267 x66_4).f1))) (fun _ h_ => h_.1))) hb); have n2_ := Aside0.mk (Kd.R_below (by (with_reducible repeat (first | apply Kd.R_alloc | apply Kd.R_drewN | apply Kd.R_drew)); exact (Kd.R_mono (Kd.R_far (p := ⟨gb271, 1, none⟩) (Kd.R_far (p := ⟨gb271, 0, none⟩) (Kd.R_mono HO_64.out (fun k_ hk => (⟨hk, hk.2⟩ : _ ∧ k_ ≠ gb271))) (fun _ hk => hk.2) (.int .i64 ((rd_T27 t267 x66_4).f0))) (fun _ hk => hk.2) (.int .i64 ((rd_T27 t267 x66_4).f1))) (fun _ h_ => h_.1))) hb); have n3_ := Aside0.mk (blk_below (g := gb271) (o := .cells #[.int .i64 ((rd_T27 t267 x66_4).f0), .int .i64 ((rd_T27 t267 x66_4).f1)] 27 (0, 0)) (by (with_reducible repeat (first | refine blk_drewN ?_ _ | refine blk_drew ?_ | refine blk_alloc ?_ _)); refine blk_put (cs := #[.int .i64 ((rd_T27 t267 x66_4).f0), .int .i64 0]) ?_ 1 _ rfl; (with_reducible repeat (first | refine blk_drewN ?_ _ | refine blk_drew ?_ | refine blk_alloc ?_ _)); refine blk_put (cs := #[.int .i64 0, .int .i64 0]) ?_ 0 _ rfl; (with_reducible repeat (first | refine blk_drewN ?_ _ | refine blk_drew ?_ | refine blk_alloc ?_ _)); exact BK271.out) hb); have n4_ := Aside0.mk (below_step (by repeat (first | (with_reducible first | exact HB.out | apply below_alloc | apply pw_below_drewN | apply below_drew1 | refine below_set ?_ GE271.out) | exact HB.out)) hb); clear HO_6; clear HO_10; clear HO_64; clear BK271; clear HB; have HO_6 := n0_; have HO_10 := n1_; have HO_64 := n2_; have BK271 := n3_; have HB := n4_; clear n0_ n1_ n2_ n3_ n4_; (try clear hb); (try clear hb2); (try clear hk); (try clear hi); have p274 : 0 ≤ (t272 : Int) := of_decide_eq_true (by first | (with_reducible assumption) | assumption); have q274 : t272 < (x6_4.length : Int) := of_decide_eq_true (by first | (with_reducible assumption) | assumption); obtain ⟨ad274, e274, hx274_0⟩ := Kd.at_int (Kd.R_reads' HO_6.out).2.2 t272 p274 q274; obtain rfl : (⟨go23, 0, none⟩ : Addr) = ad274 := (by injection e274); (first | simp only [add_plain] at hx274_0 | simp only [add_at] at hx274_0 | simp only [Addr.add, Nat.zero_add] at hx274_0 | skip); replace p274 := eq_true p274; replace q274 := eq_true q274))
                                                      (try simp only [← hl6_4])
                                                      go_roundg k4
                                                      case measure => have := HK1.out; have := HK2.out; have := HK3.out; have := HK4.out; omega
                                                      case rel => exact ⟨(x6_4), (x10_4), (wrap64 (x66_4 + 1)), (by first | rfl | (simp; done) | (simp [*]; done)), H', ⟨by have := HK1.out; have := HK2.out; have := HK3.out; have := HK4.out; omega⟩, ⟨by (try simp only [hl6_3]); (try simp only [hl6_4]); (with_reducible repeat (first | apply Kd.R_alloc | apply Kd.R_drewN | apply Kd.R_drew)); exact HO_6.out⟩, ⟨by (try simp only [hl6_3]); (try simp only [hl6_4]); (with_reducible repeat (first | apply Kd.R_alloc | apply Kd.R_drewN | apply Kd.R_drew)); exact HO_10.out⟩, ⟨by (try simp only [hl6_3]); (try simp only [hl6_4]); (with_reducible repeat (first | apply Kd.R_alloc | apply Kd.R_drewN | apply Kd.R_drew)); exact Kd.R_mono HO_64.out (fun _ hk => trivial)⟩, ⟨by repeat (first | (with_reducible first | exact HB.out | apply below_alloc | apply pw_below_drewN | apply below_drew1 | refine below_set ?_ GE271.out) | exact HB.out)⟩, ⟨(by (with_reducible repeat (first | apply pm_alloc | apply pm_drewN | apply pm_drew | refine pm_farN ?_ (by assumption) _)); exact HM.out)⟩⟩
                                                  · rw [if_neg c43] at H
                                                    exact absurd H (by simp)
                                                · rw [if_neg c42] at H
                                                  exact absurd H (by simp)
                                              · replace c41 := Bool.eq_false_iff.mpr c41
                                                subst c41
                                                have H1 : (impl_parts__impl_trianglesAround.l3 k4 l0 x6_4 x36_2 x10_4 x11_3 (l0.length : Int) x36_2 t267 (t267.length : Int) (wrap64 (x66_4 + 1))) = some r := by rw [if_neg (show ¬ (false = true) by decide)] at H; exact H
                                                clear H
                                                have H := H1
                                                clear H1
                                                have H' := Aside0.mk H
                                                clear H
                                                have p270 : 0 ≤ (x66_4 : Int) := of_decide_eq_true (by first | (with_reducible assumption) | assumption)
                                                have q270 : x66_4 < (t267.length : Int) := of_decide_eq_true (by first | (with_reducible assumption) | assumption)
                                                obtain ⟨ad270, e270, hx270_0, hx270_1⟩ := at_T27 (Kd.R_reads' HO_64.out).2.2 x66_4 p270 q270
                                                cases e270
                                                replace p270 := eq_true p270
                                                replace q270 := eq_true q270
                                                go_wp2_with (first | ((with_reducible refine gate_dst (N := 13) rfl ?_); refine box_event ?hg (N := 13) ?hd (cs := #[.int .i64 0, .int .i64 0]) (t := 27) ?hr ?_; (case hd => rfl); (case hg => rfl); (case hr => first | (go_simp; done) | (go_simp; rfl)); intro gb271 hg w56 hbox hb; have hne271 : bm ≠ gb271 := (by rw [hg]; exact Nat.ne_of_lt (pm_lt (by (with_reducible repeat (first | apply pm_alloc | apply pm_drewN | apply pm_drew | refine pm_farN ?_ (by assumption) _)); exact HM.out))); have m0_ := Aside0.mk (pm_step (by (with_reducible repeat (first | apply pm_alloc | apply pm_drewN | apply pm_drew | refine pm_farN ?_ (by assumption) _)); exact HM.out) hb); clear HM; have HM := m0_; clear m0_; have n0_ := Aside0.mk (Kd.R_below (by (with_reducible repeat (first | apply Kd.R_alloc | apply Kd.R_drewN | apply Kd.R_drew)); exact HO_6.out) hb); have n1_ := Aside0.mk (Kd.R_below (by (with_reducible repeat (first | apply Kd.R_alloc | apply Kd.R_drewN | apply Kd.R_drew)); exact HO_10.out) hb); have n2_ := Aside0.mk (Kd.R_below (Kd.R_elderB (by (with_reducible repeat (first | apply Kd.R_alloc | apply Kd.R_drewN | apply Kd.R_drew)); exact HO_64.out) gb271 (Nat.le_of_eq hg.symm)) hb); have n3_ := Aside0.mk (below_step (by repeat (first | (with_reducible first | exact HB.out | apply below_alloc | apply pw_below_drewN | apply below_drew1) | exact HB.out)) hb); have n4_ := Aside0.mk (hbox); have n5_ := Aside0.mk ((by rw [hg]; exact (below_size (by repeat (first | (with_reducible first | exact HB.out | apply below_alloc | apply pw_below_drewN | apply below_drew1) | exact HB.out))) : w.heap.size ≤ gb271)); have n6_ := Aside0.mk ((by rw [hg]; exact (below_size (by repeat (first | (with_reducible first | exact HB.out | apply below_alloc | apply pw_below_drewN | apply below_drew1) | exact HB.out))) : w.heap.size ≤ gb271)); clear HO_6; clear HO_10; clear HO_64; clear HB; have HO_6 := n0_; have HO_10 := n1_; have HO_64 := n2_; have HB := n3_; have BK271 := n4_; have GW271 := n5_; have GE271 := n6_; clear n0_ n1_ n2_ n3_ n4_ n5_ n6_; clear hb hbox hg; have hcz57_0 : w56.cell? ⟨gb271, 0, none⟩ = some (.int .i64 0) := (blk_cell BK271.out 0).trans rfl; have hcz57_1 : w56.cell? ⟨gb271, 1, none⟩ = some (.int .i64 0) := (blk_cell BK271.out 1).trans rfl; have hfz57_0 := blk_frozen BK271.out 0; have hfz57_1 := blk_frozen BK271.out 1) | ((with_reducible refine gate_dst (N := 73) rfl ?_); refine pm_look rfl _ _ rfl rfl ?hM _ _ rfl A40.out ?_; (case hM => exact (by (with_reducible repeat (first | apply pm_alloc | apply pm_drewN | apply pm_drew | refine pm_farN ?_ (by assumption) _)); exact HM.out)); intro w58 hb m0h_; clear HM; have HM := Aside0.mk m0h_; clear m0h_; have n0_ := Aside0.mk (Kd.R_below (by (with_reducible repeat (first | apply Kd.R_alloc | apply Kd.R_drewN | apply Kd.R_drew)); exact (Kd.R_mono (Kd.R_far (p := ⟨gb271, 1, none⟩) (Kd.R_far (p := ⟨gb271, 0, none⟩) (Kd.R_types HO_6.out BK271.out (by decide)) (fun _ hk => hk.2) (.int .i64 ((rd_T27 t267 x66_4).f0))) (fun _ hk => hk.2) (.int .i64 ((rd_T27 t267 x66_4).f1))) (fun _ h_ => h_.1))) hb); have n1_ := Aside0.mk (Kd.R_below (by (with_reducible repeat (first | apply Kd.R_alloc | apply Kd.R_drewN | apply Kd.R_drew)); exact (Kd.R_mono (Kd.R_far (p := ⟨gb271, 1, none⟩) (Kd.R_far (p := ⟨gb271, 0, none⟩) (Kd.R_types HO_10.out BK271.out (by decide)) (fun _ hk => hk.2) (.int .i64 ((rd_T27 t267 x66_4).f0))) (fun _ hk => hk.2) (.int .i64 ((rd_T27 t267 x66_4).f1))) (fun _ h_ => h_.1))) hb); have n2_ := Aside0.mk (Kd.R_below (by (with_reducible repeat (first | apply Kd.R_alloc | apply Kd.R_drewN | apply Kd.R_drew)); exact (Kd.R_mono (Kd.R_far (p := ⟨gb271, 1, none⟩) (Kd.R_far (p := ⟨gb271, 0, none⟩) (Kd.R_mono HO_64.out (fun k_ hk => (⟨hk, hk.2⟩ : _ ∧ k_ ≠ gb271))) (fun _ hk => hk.2) (.int .i64 ((rd_T27 t267 x66_4).f0))) (fun _ hk => hk.2) (.int .i64 ((rd_T27 t267 x66_4).f1))) (fun _ h_ => h_.1))) hb); have n3_ := Aside0.mk (blk_below (g := gb271) (o := .cells #[.int .i64 ((rd_T27 t267 x66_4).f0), .int .i64 ((rd_T27 t267 x66_4).f1)] 27 (0, 0)) (by (with_reducible repeat (first | refine blk_drewN ?_ _ | refine blk_drew ?_ | refine blk_alloc ?_ _)); refine blk_put (cs := #[.int .i64 ((rd_T27 t267 x66_4).f0), .int .i64 0]) ?_ 1 _ rfl; (with_reducible repeat (first | refine blk_drewN ?_ _ | refine blk_drew ?_ | refine blk_alloc ?_ _)); refine blk_put (cs := #[.int .i64 0, .int .i64 0]) ?_ 0 _ rfl; (with_reducible repeat (first | refine blk_drewN ?_ _ | refine blk_drew ?_ | refine blk_alloc ?_ _)); exact BK271.out) hb); have n4_ := Aside0.mk (below_step (by repeat (first | (with_reducible first | exact HB.out | apply below_alloc | apply pw_below_drewN | apply below_drew1 | refine below_set ?_ GE271.out) | exact HB.out)) hb); clear HO_6; clear HO_10; clear HO_64; clear BK271; clear HB; have HO_6 := n0_; have HO_10 := n1_; have HO_64 := n2_; have BK271 := n3_; have HB := n4_; clear n0_ n1_ n2_ n3_ n4_; (try clear hb); (try clear hb2); (try clear hk); (try clear hi)))
                                                (try simp only [← hl6_4])
                                                go_roundg k4
                                                case measure => have := HK1.out; have := HK2.out; have := HK3.out; have := HK4.out; omega
                                                case rel => exact ⟨(x6_4), (x10_4), (wrap64 (x66_4 + 1)), (by first | rfl | (simp; done) | (simp [*]; done)), H', ⟨by have := HK1.out; have := HK2.out; have := HK3.out; have := HK4.out; omega⟩, ⟨by (try simp only [hl6_3]); (try simp only [hl6_4]); (with_reducible repeat (first | apply Kd.R_alloc | apply Kd.R_drewN | apply Kd.R_drew)); exact HO_6.out⟩, ⟨by (try simp only [hl6_3]); (try simp only [hl6_4]); (with_reducible repeat (first | apply Kd.R_alloc | apply Kd.R_drewN | apply Kd.R_drew)); exact HO_10.out⟩, ⟨by (try simp only [hl6_3]); (try simp only [hl6_4]); (with_reducible repeat (first | apply Kd.R_alloc | apply Kd.R_drewN | apply Kd.R_drew)); exact Kd.R_mono HO_64.out (fun _ hk => trivial)⟩, ⟨by repeat (first | (with_reducible first | exact HB.out | apply below_alloc | apply pw_below_drewN | apply below_drew1 | refine below_set ?_ GE271.out) | exact HB.out)⟩, ⟨(by (with_reducible repeat (first | apply pm_alloc | apply pm_drewN | apply pm_drew | refine pm_farN ?_ (by assumption) _)); exact HM.out)⟩⟩
                                            · rw [if_neg c39] at H
                                              exact absurd H (by simp)
                                          · rw [if_neg c38] at H
                                            exact absurd H (by simp)
                                        · rw [if_neg c37] at H
                                          have c37b0 : decide (x66_4 < (t267.length : Int)) = false := decide_eq_false c37
                                          clear c37
                                          have H' := Aside0.mk H
                                          clear H
                                          go_wp2
                                          (try simp only [← hl6_3, ← hl6_4])
                                          go_roundg k4
                                          case measure => have := HK1.out; have := HK2.out; have := HK3.out; have := HK4.out; omega
                                          case rel => exact ⟨(x6_4), (x10_4), (wrap64 (x11_3 + 1)), (by first | rfl | (simp; done) | (simp [*]; done)), H', ⟨by have := HK1.out; have := HK2.out; have := HK3.out; have := HK4.out; omega⟩, ⟨by (try simp only [hl6_3]); (try simp only [hl6_4]); (with_reducible repeat (first | apply Kd.R_alloc | apply Kd.R_drewN | apply Kd.R_drew)); exact HO_6.out⟩, ⟨by (try simp only [hl6_3]); (try simp only [hl6_4]); (with_reducible repeat (first | apply Kd.R_alloc | apply Kd.R_drewN | apply Kd.R_drew)); exact HO_10.out⟩, ⟨by repeat (first | (with_reducible first | exact HB.out | apply below_alloc | apply pw_below_drewN | apply below_drew1) | exact HB.out)⟩, ⟨(by (with_reducible repeat (first | apply pm_alloc | apply pm_drewN | apply pm_drew | refine pm_farN ?_ (by assumption) _)); exact HM.out)⟩⟩
                                  · rw [if_neg c32] at H
                                    exact absurd H (by simp)
                                · rw [if_neg c31] at H
                                  exact absurd H (by simp)
                              · rw [if_neg c30] at H
                                exact absurd H (by simp)
                            · rw [if_neg c29] at H
                              have c29b0 : decide (x11_3 < (x10_3.length : Int)) = false := decide_eq_false c29
                              clear c29
                              have H' := Aside0.mk H
                              clear H
                              obtain ⟨Ao59, co59, eo59⟩ := Kd.R_slice HO_10.out
                              subst eo59
                              go_wp2
                              (try simp only [← hl6_3])
                              go_roundg k3
                              case measure => have := HK1.out; have := HK2.out; have := HK3.out; omega
                              case rel => exact ⟨(x6_3), (wrap64 (x36_2 + 1)), (by first | rfl | (simp; done) | (simp [*]; done)), H', ⟨by have := HK1.out; have := HK2.out; have := HK3.out; omega⟩, ⟨by (try simp only [hl6_3]); (with_reducible repeat (first | apply Kd.R_alloc | apply Kd.R_drewN | apply Kd.R_drew)); exact HO_6.out⟩, ⟨by repeat (first | (with_reducible first | exact HB.out | apply below_alloc | apply pw_below_drewN | apply below_drew1) | exact HB.out)⟩, ⟨(by (with_reducible repeat (first | apply pm_alloc | apply pm_drewN | apply pm_drew | refine pm_farN ?_ (by assumption) _)); exact HM.out)⟩⟩
                    · rw [if_neg c20] at H
                      exact absurd H (by simp)
                  · rw [if_neg c19] at H
                    exact absurd H (by simp)
                · rw [if_neg c18] at H
                  have c18b0 : decide (x36_2 < (l0.length : Int)) = false := decide_eq_false c18
                  clear c18
                  obtain rfl := Option.some.inj H
                  go_wp2
                  go_ret
                  exact ⟨_, by first | rfl | (simp [errW_none, errW_some] <;> rfl) | (simp [*, errW_none, errW_some] <;> rfl), by (with_reducible repeat (first | apply Kd.R_alloc | apply Kd.R_drewN | apply Kd.R_drew)); exact HO_6.out, by repeat (first | (with_reducible first | exact HB.out | apply below_alloc | apply pw_below_drewN | apply below_drew1) | exact HB.out)⟩
    · rw [if_neg c4] at H
      exact absurd H (by simp)
  · rw [if_neg c3] at H
    exact absurd H (by simp)

/-! ### impl_connected__impl_trianglesAround: function 66 -/
def impl_connected__impl_trianglesAround.f (k : Nat) (l0 : List (S27))  : Option (Bool) := (impl_parts__impl_trianglesAround.f k l0).bind fun t279 => ((slices_Max_int64_int64.f k t279).bind fun t282 => (some (t282 == 0)))
theorem impl_connected__impl_trianglesAround.mono : ∀ a0 k, LeO (impl_connected__impl_trianglesAround.f k a0) (impl_connected__impl_trianglesAround.f (k + 1) a0) := by
  intro a0 k
  unfold impl_connected__impl_trianglesAround.f
  repeat' first
      | (with_reducible exact impl_parts__impl_trianglesAround.mono _ _)
      | (with_reducible exact slices_Max_int64_int64.mono _ _)
      | (with_reducible exact LeO.refl _)
      | (with_reducible exact LeO.none _)
      | (with_reducible refine LeO.ite ?_ ?_)
      | (with_reducible refine LeO.bind ?_ (fun _ => ?_))
      | exact impl_parts__impl_trianglesAround.mono _ _
      | exact slices_Max_int64_int64.mono _ _
      | exact LeO.none _
      | refine LeO.ite ?_ ?_
      | refine LeO.bind ?_ (fun _ => ?_)
set_option maxHeartbeats 8000000 in
set_option maxRecDepth 100000 in
theorem impl_connected__impl_trianglesAround.calls (k : Nat) (A0 : Option Addr) (c0 : Nat) (l0 : List (S27))  (r : Bool) (w : World) (hr0 : Kd.C k27 w A0 l0.length l0) (hc0 : l0.length ≤ c0) (h : impl_connected__impl_trianglesAround.f k l0 = some r) :
    Calls Try.prog 66 #[.slice A0 l0.length c0, .func (.func 61) #[] #[]] w fun e w' => e = .returned (.bool r) ∧ Below w.heap.size w w' := by
  have HR0 := Aside0.mk hr0
  have HC0 := Aside0.mk hc0
  clear hr0 hc0
  have HB := Aside0.mk (Below.refl w.heap.size w)
  have H : ((impl_parts__impl_trianglesAround.f k l0).bind fun t279 => ((slices_Max_int64_int64.f k t279).bind fun t282 => (some (t282 == 0)))) = some r := h
  clear h
  replace H := Option.bind_eq_some_iff.mp H
  obtain ⟨t279, A30, H⟩ := H
  replace H : ((slices_Max_int64_int64.f k t279).bind fun t282 => (some (t282 == 0))) = some r := H
  have A3 := Aside0.mk A30
  clear A30
  replace H := Option.bind_eq_some_iff.mp H
  obtain ⟨t282, A40, H⟩ := H
  replace H : (some (t282 == 0)) = some r := H
  have A4 := Aside0.mk A40
  clear A40
  obtain rfl := Option.some.inj H
  go_enter Try.func66, Try.ntmps66
  go_wp2_with (first | ((with_reducible refine gate_callee (f := 107) rfl ?_); refine goesL_ (some 7) rfl rfl Try.func107 (by kernel_rfl) rfl #[.slice A0 l0.length c0, .func (.func 61) #[] #[]] rfl (by (try simp only [List.map_toArray, List.map_cons, List.map_nil]); first | done | rfl | (simp only [List.length_drop, List.length_take]; rfl)) ?_; (with_reducible refine (impl_parts__impl_trianglesAround.calls k _ _ l0  t279 _ ?side1 ?side2 A3.out).mono ?_); (case side1 => repeat (first | exact HR0.out | (with_reducible refine Kd.C_alloc ?_ _) | (with_reducible refine Kd.C_drewN ?_ _) | (with_reducible refine Kd.C_drew ?_))); (case side2 => exact HC0.out); rintro e w5 ⟨v280, rfl, ho0, hb⟩; refine ⟨_, rfl, ?_⟩; have n0_ := Aside0.mk (Kd.R_lower ho0 (below_size (by repeat (first | (with_reducible first | exact HB.out | apply below_alloc | apply pw_below_drewN | apply below_drew1) | exact HB.out)))); have n1_ := Aside0.mk (below_step (by repeat (first | (with_reducible first | exact HB.out | apply below_alloc | apply pw_below_drewN | apply below_drew1) | exact HB.out)) hb); clear HB; have HO281 := n0_; have HB := n1_; clear n0_ n1_; (try clear hb); (try clear hb2); (try clear hk); (try clear hi); (try clear ho0); obtain ⟨Ao6, co6, eo6⟩ := Kd.R_slice HO281.out; subst eo6) | ((with_reducible refine gate_callee (f := 106) rfl ?_); refine goesL_ (some 8) rfl rfl Try.func106 (by kernel_rfl) rfl #[.slice Ao6 t279.length co6] rfl (by (try simp only [List.map_toArray, List.map_cons, List.map_nil]); first | done | rfl | (simp only [List.length_drop, List.length_take]; rfl)) ?_; (with_reducible refine (slices_Max_int64_int64.calls k _ _ t279 t282 _ ?side1 ?side2 A4.out).mono ?_); (case side1 => repeat (first | exact (Kd.R_reads' HO281.out).2.2 | (with_reducible refine Kd.C_alloc ?_ _) | (with_reducible refine Kd.C_drewN ?_ _) | (with_reducible refine Kd.C_drew ?_))); (case side2 => exact (Kd.R_reads' HO281.out).2.1); rintro e w7 ⟨rfl, hb⟩; refine ⟨_, rfl, ?_⟩; have n0_ := Aside0.mk (Kd.R_below (by (with_reducible repeat (first | apply Kd.R_alloc | apply Kd.R_drewN | apply Kd.R_drew)); exact HO281.out) hb); have n1_ := Aside0.mk (below_step (by repeat (first | (with_reducible first | exact HB.out | apply below_alloc | apply pw_below_drewN | apply below_drew1) | exact HB.out)) hb); clear HO281; clear HB; have HO281 := n0_; have HB := n1_; clear n0_ n1_; (try clear hb); (try clear hb2); (try clear hk); (try clear hi)))
  go_ret
  exact ⟨by first | rfl | (simp [errW_none, errW_some] <;> rfl) | (simp [*, errW_none, errW_some] <;> rfl), by repeat (first | (with_reducible first | exact HB.out | apply below_alloc | apply pw_below_drewN | apply below_drew1) | exact HB.out)⟩

/-! ### impl_IsTriangleShape: function 25 -/
def impl_IsTriangleShape.f (k : Nat) (l0 : List (S27)) : Option (Bool × Bool) := (impl_isTriangleShape.f k l0).bind fun t283 => (if t283 = true then ((impl_connected__impl_trianglesAround.f k l0).bind fun t284 => (some (true, t284))) else (some (false, false)))
theorem impl_IsTriangleShape.mono : ∀ a0 k, LeO (impl_IsTriangleShape.f k a0) (impl_IsTriangleShape.f (k + 1) a0) := by
  intro a0 k
  unfold impl_IsTriangleShape.f
  repeat' first
      | (with_reducible exact impl_connected__impl_trianglesAround.mono _ _)
      | (with_reducible exact impl_isTriangleShape.mono _ _)
      | (with_reducible exact LeO.refl _)
      | (with_reducible exact LeO.none _)
      | (with_reducible refine LeO.ite ?_ ?_)
      | (with_reducible refine LeO.bind ?_ (fun _ => ?_))
      | exact impl_connected__impl_trianglesAround.mono _ _
      | exact impl_isTriangleShape.mono _ _
      | exact LeO.none _
      | refine LeO.ite ?_ ?_
      | refine LeO.bind ?_ (fun _ => ?_)
set_option maxHeartbeats 8000000 in
set_option maxRecDepth 100000 in
theorem impl_IsTriangleShape.calls (k : Nat) (A0 : Option Addr) (c0 : Nat) (l0 : List (S27)) (r1 : Bool) (r2 : Bool) (w : World) (hr0 : Kd.C k27 w A0 l0.length l0) (hc0 : l0.length ≤ c0) (h : impl_IsTriangleShape.f k l0 = some (r1, r2)) :
    Calls Try.prog 25 #[.slice A0 l0.length c0] w fun e w' => e = .returned (.tuple #[.bool r1, .bool r2]) ∧ Below w.heap.size w w' := by
  have HR0 := Aside0.mk hr0
  have HC0 := Aside0.mk hc0
  clear hr0 hc0
  have HB := Aside0.mk (Below.refl w.heap.size w)
  have H : ((impl_isTriangleShape.f k l0).bind fun t283 => (if t283 = true then ((impl_connected__impl_trianglesAround.f k l0).bind fun t284 => (some (true, t284))) else (some (false, false)))) = some (r1, r2) := h
  clear h
  replace H := Option.bind_eq_some_iff.mp H
  obtain ⟨t283, A20, H⟩ := H
  replace H : (if t283 = true then ((impl_connected__impl_trianglesAround.f k l0).bind fun t284 => (some (true, t284))) else (some (false, false))) = some (r1, r2) := H
  have A2 := Aside0.mk A20
  clear A20
  by_cases c3 : t283 = true
  · subst c3
    have H1 : ((impl_connected__impl_trianglesAround.f k l0).bind fun t284 => (some (true, t284))) = some (r1, r2) := by rw [if_pos rfl] at H; exact H
    clear H
    have H := H1
    clear H1
    replace H := Option.bind_eq_some_iff.mp H
    obtain ⟨t284, A40, H⟩ := H
    replace H : (some (true, t284)) = some (r1, r2) := H
    have A4 := Aside0.mk A40
    clear A40
    simp only [Option.some.injEq, Prod.mk.injEq] at H
    obtain ⟨rfl, rfl⟩ := H
    go_enter Try.func25, Try.ntmps25
    go_wp2_with (first | ((with_reducible refine gate_callee (f := 65) rfl ?_); refine goesL_ (some 5) rfl rfl Try.func65 (by kernel_rfl) rfl #[.slice A0 l0.length c0] rfl (by (try simp only [List.map_toArray, List.map_cons, List.map_nil]); first | done | rfl | (simp only [List.length_drop, List.length_take]; rfl)) ?_; (with_reducible refine (impl_isTriangleShape.calls k _ _ l0 true _ ?side1 ?side2 A2.out).mono ?_); (case side1 => repeat (first | exact HR0.out | (with_reducible refine Kd.C_alloc ?_ _) | (with_reducible refine Kd.C_drewN ?_ _) | (with_reducible refine Kd.C_drew ?_))); (case side2 => exact HC0.out); rintro e w5 ⟨rfl, hb⟩; refine ⟨_, rfl, ?_⟩; have n0_ := Aside0.mk (below_step (by repeat (first | (with_reducible first | exact HB.out | apply below_alloc | apply pw_below_drewN | apply below_drew1) | exact HB.out)) hb); clear HB; have HB := n0_; clear n0_; (try clear hb); (try clear hb2); (try clear hk); (try clear hi)) | ((with_reducible refine gate_callee (f := 66) rfl ?_); refine goesL_ (some 8) rfl rfl Try.func66 (by kernel_rfl) rfl #[.slice A0 l0.length c0, .func (.func 61) #[] #[]] rfl (by (try simp only [List.map_toArray, List.map_cons, List.map_nil]); first | done | rfl | (simp only [List.length_drop, List.length_take]; rfl)) ?_; (with_reducible refine (impl_connected__impl_trianglesAround.calls k _ _ l0  t284 _ ?side1 ?side2 A4.out).mono ?_); (case side1 => repeat (first | exact (Kd.C_below HR0.out HB.out) | (with_reducible refine Kd.C_alloc ?_ _) | (with_reducible refine Kd.C_drewN ?_ _) | (with_reducible refine Kd.C_drew ?_))); (case side2 => exact HC0.out); rintro e w6 ⟨rfl, hb⟩; refine ⟨_, rfl, ?_⟩; have n0_ := Aside0.mk (below_step (by repeat (first | (with_reducible first | exact HB.out | apply below_alloc | apply pw_below_drewN | apply below_drew1) | exact HB.out)) hb); clear HB; have HB := n0_; clear n0_; (try clear hb); (try clear hb2); (try clear hk); (try clear hi)))
    go_ret2
    exact ⟨by first | rfl | (simp [errW_none, errW_some] <;> rfl) | (simp [*, errW_none, errW_some] <;> rfl), by repeat (first | (with_reducible first | exact HB.out | apply below_alloc | apply pw_below_drewN | apply below_drew1) | exact HB.out)⟩
  · replace c3 := Bool.eq_false_iff.mpr c3
    subst c3
    have H1 : (some (false, false)) = some (r1, r2) := by rw [if_neg (show ¬ (false = true) by decide)] at H; exact H
    clear H
    have H := H1
    clear H1
    simp only [Option.some.injEq, Prod.mk.injEq] at H
    obtain ⟨rfl, rfl⟩ := H
    go_enter Try.func25, Try.ntmps25
    go_wp2_with (first | ((with_reducible refine gate_callee (f := 65) rfl ?_); refine goesL_ (some 5) rfl rfl Try.func65 (by kernel_rfl) rfl #[.slice A0 l0.length c0] rfl (by (try simp only [List.map_toArray, List.map_cons, List.map_nil]); first | done | rfl | (simp only [List.length_drop, List.length_take]; rfl)) ?_; (with_reducible refine (impl_isTriangleShape.calls k _ _ l0 false _ ?side1 ?side2 A2.out).mono ?_); (case side1 => repeat (first | exact HR0.out | (with_reducible refine Kd.C_alloc ?_ _) | (with_reducible refine Kd.C_drewN ?_ _) | (with_reducible refine Kd.C_drew ?_))); (case side2 => exact HC0.out); rintro e w7 ⟨rfl, hb⟩; refine ⟨_, rfl, ?_⟩; have n0_ := Aside0.mk (below_step (by repeat (first | (with_reducible first | exact HB.out | apply below_alloc | apply pw_below_drewN | apply below_drew1) | exact HB.out)) hb); clear HB; have HB := n0_; clear n0_; (try clear hb); (try clear hb2); (try clear hk); (try clear hi)))
    go_ret2
    exact ⟨by first | rfl | (simp [errW_none, errW_some] <;> rfl) | (simp [*, errW_none, errW_some] <;> rfl), by repeat (first | (with_reducible first | exact HB.out | apply below_alloc | apply pw_below_drewN | apply below_drew1) | exact HB.out)⟩

end Go.Proofs.Yteelofmecchmcaa.F
