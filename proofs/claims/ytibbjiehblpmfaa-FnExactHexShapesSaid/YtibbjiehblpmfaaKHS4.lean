/- The row of FnExactHexShapes, with what it needs: text 5 of 11. -/
import Derived.Test.YtibbjiehblpmfaaKHS3
set_option maxHeartbeats 8000000
set_option maxRecDepth 100000
section
namespace Go.Proofs.Ytibbjiehblpmfaa.F
open Go.RowKit Go.Proofs.YtibbjiehblpmfaaW.PrintWords Go.Proofs.YtibbjiehblpmfaaW.PrintLast Go.Proofs.YtibbjiehblpmfaaW.PrintMore
attribute [local go_sem] max2_int min2_int max_two min_two max_three min_three max_four min_four
set_option linter.unusedVariables false
set_option linter.unusedSimpArgs false
theorem spec_IsShape.calls (k : Nat) (A0 : Option Addr) (c0 : Nat) (l0 : List (S43)) (r : Bool) (w : World) (hr0 : Kd.C k43 w A0 l0.length l0) (hc0 : l0.length ≤ c0) (h : spec_IsShape.f k l0 = some r) :
  Calls Try.prog 42 #[.slice A0 l0.length c0] w fun e w' => e = .returned (.bool r) ∧ Below w.heap.size w w' := by
 have hu43 := Try.underlying43
 have HR0 := aM hr0
 have HC0 := aM hc0
 clear hr0 hc0
 have HB := aM (Below.refl w.heap.size w)
 have H : (spec_IsShape.l0 k l0 0) = some r := h
 clear h
 have H' := aM H
 clear H
 go_enter Try.func42, Try.ntmps42
 go_wp2
 go_loopg [3] k (fun kq v3 w' => ∃ (x3_1 : Int), v3 = .int .i64 x3_1 ∧ Aside0 (spec_IsShape.l0 kq l0 x3_1 = some r) ∧ Aside0 (kq ≤ k) ∧ Aside0 (Below w.heap.size w w'))
 case atStart => exact ⟨(0), zr, H', ⟨Nat.le_refl _⟩, ⟨zb⟩⟩
 case round =>
  clear H'
  obtain ⟨x3_1, rfl, HA, HK1, HB⟩ := hrel
  cases gk with
  | zero => exact absurd HA.out (by simp [spec_IsShape.l0])
  | succ k1 =>
   have H := HA.out
   clear HA
   simp only [spec_IsShape.l0] at H
   by_cases c2 : x3_1 < (l0.length : Int)
   rotate_left
   ·rw [if_neg c2] at H
    have c2b0 : decide (x3_1 < (l0.length : Int)) = false := decide_eq_false c2
    clear c2
    replace H := Option.bind_eq_some_iff.mp H
    obtain ⟨t176, A220, H⟩ := H
    replace H : (some t176) = some r := H
    have A22 := aM A220
    clear A220
    obtain rfl := Option.some.inj H
    go_wp2_with (first | ((with_reducible refine gate_callee (f := 12) rfl ?_); refine goesL_ (some 35) rfl rfl Try.func12 (by kernel_rfl) rfl #[.int .i64 (l0.length : Int), .int .i64 1, .int .i64 40] rfl zm ?_; (with_reducible refine (spec_l01In.calls (l0.length : Int) 1 40 t176 _ A22.out).mono ?_); rintro e w' ⟨rfl, ⟨nd, rfl⟩⟩; refine ⟨_, rfl, ?_⟩))
    go_ret
    exact ⟨zw, zb⟩
   rw [if_pos c2] at H
   have c2b0 : decide (x3_1 < (l0.length : Int)) = true := decide_eq_true c2
   clear c2
   by_cases c3 : 0 ≤ x3_1
   rotate_left
   ·rw [if_neg c3] at H
    exact absurd H (by simp)
   rw [if_pos c3] at H
   have c3b0 : decide (0 ≤ x3_1) = true := decide_eq_true c3
   clear c3
   replace H := Option.bind_eq_some_iff.mp H
   obtain ⟨t178, A40, H⟩ := H
   replace H : (if t178 = true then (if x3_1 > 0 then (if 0 ≤ (wrap64 (x3_1 - 1)) then (if (wrap64 (x3_1 - 1)) < (l0.length : Int) then ((spec_l02Less.f ((rd_T43 l0 (wrap64 (x3_1 - 1))).f0) ((rd_T43 l0 (wrap64 (x3_1 - 1))).f1) ((rd_T43 l0 x3_1).f0) ((rd_T43 l0 x3_1).f1)).bind fun t181 => (if t181 = true then (spec_IsShape.l0 k1 l0 (wrap64 (x3_1 + 1))) else (some false))) else (none)) else (none)) else (spec_IsShape.l0 k1 l0 (wrap64 (x3_1 + 1)))) else (some false)) = some r := H
   have A4 := aM A40
   clear A40
   by_cases c5 : t178 = true
   rotate_left
   ·replace c5 := Bool.eq_false_iff.mpr c5
    subst c5
    have H1 : (some false) = some r := by rw [if_neg (show ¬ (false = true) by decide)] at H; exact H
    clear H
    have H := H1
    clear H1
    obtain rfl := Option.some.inj H
    try go_wp2
    have n0_ := aM (below_drew1 HB.out)
    clear HB
    have HB := n0_
    clear n0_
    have p177 : 0 ≤ (x3_1 : Int) := of_decide_eq_true za
    have q177 : x3_1 < (l0.length : Int) := of_decide_eq_true za
    obtain ⟨ad177, e177, hx177_0, hx177_1⟩ := at_T43 HR0.out x3_1 p177 q177
    have hw177_1 := hx177_1
    have hw177_0 := hx177_0
    cases e177
    replace hx177_0 := zk HB.out hx177_0
    replace hx177_1 := zk HB.out hx177_1
    replace p177 := eq_true p177
    replace q177 := eq_true q177
    refine start_ (n := 23) (S := fun w' => w'.cell? (ad177.add ((x3_1).toNat * 2)) = some (.int .i64 ((rd_T43 l0 x3_1).f0)) ∧ w'.cell? ⟨(ad177.add ((x3_1).toNat * 2)).block, (ad177.add ((x3_1).toNat * 2)).off + 1, none⟩ = some (.int .i64 ((rd_T43 l0 x3_1).f1))) (ds := []) zA34 (by kernel_rfl) rfl rfl ⟨(zk HB.out hw177_0), (zk HB.out hw177_1)⟩ (fun hHeld => ?_); refine with_tabW spec_IsShape.tab4 spec_IsShape.bits4 (fun HT_ HW_ => ?_)
    generalize wr.drew = w20 at HB hx177_0 hx177_1 hHeld ⊢
    refine zp 0 (some 10) ?_ zA35 rfl rfl (Or.inl ⟨by rfl, ?_⟩) ?_ ?_ ?_
    rotate_left
    ·intro w'
     go_simp
     with_reducible rfl
    rotate_left
    ·simp only [Act.put, xA, xB, xC, i64_w, i32_w]
     rfl
    refine zp 1 (some 11) ?_ zA36 rfl rfl (Or.inl ⟨by rfl, ?_⟩) ?_ ?_ ?_
    rotate_left
    ·intro w'
     go_simp
     with_reducible rfl
    rotate_left
    ·simp only [Act.put, xA, xB, xC, i64_w, i32_w]
     rfl
    refine zp 2 (some 12) ?_ zA37 rfl rfl (Or.inl ⟨by rfl, ?_⟩) ?_ ?_ ?_
    rotate_left
    ·intro w'
     go_simp
     with_reducible rfl
    rotate_left
    ·simp only [Act.put, xA, xB, xC, i64_w, i32_w]
     rfl
    refine zu 3 (some 13) ?_ zA38 rfl rfl (Or.inl ⟨by rfl, ?_⟩) hHeld ?_ ?_ ?_
    rotate_left
    ·rintro w' ⟨s0, s1⟩
     go_simp
     with_reducible rfl
    rotate_left
    ·simp only [Act.put, xA, xB, xC, i64_w, i32_w]
     rfl
    refine one_ (i := 4) (N := some 14) zA39 rfl rfl (one_of HT_.out (by kernel_rfl)) (by decide) (fun K hK => ?_)
    refine goes_ Try.func57 (by kernel_rfl) rfl #[.agg #[.int .i64 ((rd_T43 l0 x3_1).f0), .int .i64 ((rd_T43 l0 x3_1).f1)]] (by rfl) rfl rfl zm ?_
    with_reducible refine (spec_l02Cell.calls ((rd_T43 l0 x3_1).f0) ((rd_T43 l0 x3_1).f1) false _ A4.out).mono ?_
    rintro e w21 ⟨rfl, hb⟩
    refine ⟨_, rfl, ?_⟩
    have n0_ := aM (below_step zb hb)
    clear HB
    have HB := n0_
    clear n0_
    (try clear hb)
    (try clear hb2)
    (try clear hk)
    (try clear hi)
    refine hK.out _ _ ⟨(zk HB.out hw177_0), (zk HB.out hw177_1)⟩ (fun hHeld => ?_)
    clear hK K
    refine norm_ (a' := ?_) ?_ ?_
    rotate_left
    ·show Act.put _ (some 14) _ = _
     simp only [Act.put, xA, xB, xC, i64_w, i32_w]
     rfl
    refine zp 5 (some 15) ?_ zA40 rfl rfl (Or.inl ⟨by rfl, ?_⟩) ?_ ?_ ?_
    rotate_left
    ·intro w'
     go_simp
     with_reducible rfl
    rotate_left
    ·simp only [Act.put, xA, xB, xC, i64_w, i32_w]
     rfl
    refine zp 6 (some 16) ?_ zA41 rfl rfl (Or.inl ⟨by rfl, ?_⟩) ?_ ?_ ?_
    rotate_left
    ·intro w'
     go_simp
     with_reducible rfl
    rotate_left
    ·simp only [Act.put, xA, xB, xC, i64_w, i32_w]
     rfl
    refine zp 7 (some 17) undef zA42 rfl rfl (Or.inr ⟨by rfl, rfl⟩) ?_ ?_ ?_
    rotate_left
    ·simp only [Act.put, xA, xB, xC, i64_w, i32_w]
     rfl
    refine zp 8 (some 18) undef zA43 rfl rfl (Or.inr ⟨by rfl, rfl⟩) ?_ ?_ ?_
    rotate_left
    ·simp only [Act.put, xA, xB, xC, i64_w, i32_w]
     rfl
    refine zp 9 (some 19) undef zA44 rfl rfl (Or.inr ⟨by rfl, rfl⟩) ?_ ?_ ?_
    rotate_left
    ·simp only [Act.put, xA, xB, xC, i64_w, i32_w]
     rfl
    refine zp 10 (some 20) undef zA45 rfl rfl (Or.inr ⟨by rfl, rfl⟩) ?_ ?_ ?_
    rotate_left
    ·simp only [Act.put, xA, xB, xC, i64_w, i32_w]
     rfl
    refine zp 11 (some 21) undef zA46 rfl rfl (Or.inr ⟨by rfl, rfl⟩) ?_ ?_ ?_
    rotate_left
    ·simp only [Act.put, xA, xB, xC, i64_w, i32_w]
     rfl
    refine zp 12 (some 22) undef zA47 rfl rfl (Or.inr ⟨by rfl, rfl⟩) ?_ ?_ ?_
    rotate_left
    ·simp only [Act.put, xA, xB, xC, i64_w, i32_w]
     rfl
    refine zp 13 (some 23) undef zA48 rfl rfl (Or.inr ⟨by rfl, rfl⟩) ?_ ?_ ?_
    rotate_left
    ·simp only [Act.put, xA, xB, xC, i64_w, i32_w]
     rfl
    refine zp 14 (some 24) undef zA49 rfl rfl (Or.inr ⟨by rfl, rfl⟩) ?_ ?_ ?_
    rotate_left
    ·simp only [Act.put, xA, xB, xC, i64_w, i32_w]
     rfl
    refine zp 15 (some 25) undef zA50 rfl rfl (Or.inr ⟨by rfl, rfl⟩) ?_ ?_ ?_
    rotate_left
    ·simp only [Act.put, xA, xB, xC, i64_w, i32_w]
     rfl
    refine zp 16 (some 26) undef zA51 rfl rfl (Or.inr ⟨by rfl, rfl⟩) ?_ ?_ ?_
    rotate_left
    ·simp only [Act.put, xA, xB, xC, i64_w, i32_w]
     rfl
    refine zp 17 (some 27) undef zA52 rfl rfl (Or.inr ⟨by rfl, rfl⟩) ?_ ?_ ?_
    rotate_left
    ·simp only [Act.put, xA, xB, xC, i64_w, i32_w]
     rfl
    refine zp 18 (some 28) undef zA53 rfl rfl (Or.inr ⟨by rfl, rfl⟩) ?_ ?_ ?_
    rotate_left
    ·simp only [Act.put, xA, xB, xC, i64_w, i32_w]
     rfl
    refine zp 19 (some 29) undef zA54 rfl rfl (Or.inr ⟨by rfl, rfl⟩) ?_ ?_ ?_
    rotate_left
    ·simp only [Act.put, xA, xB, xC, i64_w, i32_w]
     rfl
    refine zp 20 (some 30) undef zA55 rfl rfl (Or.inr ⟨by rfl, rfl⟩) ?_ ?_ ?_
    rotate_left
    ·simp only [Act.put, xA, xB, xC, i64_w, i32_w]
     rfl
    refine zp 21 (some 31) undef zA56 rfl rfl (Or.inr ⟨by rfl, rfl⟩) ?_ ?_ ?_
    rotate_left
    ·simp only [Act.put, xA, xB, xC, i64_w, i32_w]
     rfl
    refine zp 22 (some 32) ?_ zA57 rfl rfl (Or.inl ⟨by rfl, ?_⟩) ?_ ?_ ?_
    rotate_left
    ·intro w'
     go_simp
     with_reducible rfl
    rotate_left
    ·simp only [Act.put, xA, xB, xC, i64_w, i32_w]
     rfl
    refine done_ (done_of HT_.out (by kernel_rfl)) ?_
    try go_wp2
    go_ret
    exact ⟨zw, zb⟩
   subst c5
   have H1 : (if x3_1 > 0 then (if 0 ≤ (wrap64 (x3_1 - 1)) then (if (wrap64 (x3_1 - 1)) < (l0.length : Int) then ((spec_l02Less.f ((rd_T43 l0 (wrap64 (x3_1 - 1))).f0) ((rd_T43 l0 (wrap64 (x3_1 - 1))).f1) ((rd_T43 l0 x3_1).f0) ((rd_T43 l0 x3_1).f1)).bind fun t181 => (if t181 = true then (spec_IsShape.l0 k1 l0 (wrap64 (x3_1 + 1))) else (some false))) else (none)) else (none)) else (spec_IsShape.l0 k1 l0 (wrap64 (x3_1 + 1)))) = some r := by rw [if_pos rfl] at H; exact H
   clear H
   have H := H1
   clear H1
   by_cases c6 : x3_1 > 0
   rotate_left
   ·rw [if_neg c6] at H
    have c6b0 : decide (0 < x3_1) = false := decide_eq_false c6
    clear c6
    have H' := aM H
    clear H
    try go_wp2
    have n0_ := aM (below_drew1 HB.out)
    clear HB
    have HB := n0_
    clear n0_
    have p177 : 0 ≤ (x3_1 : Int) := of_decide_eq_true za
    have q177 : x3_1 < (l0.length : Int) := of_decide_eq_true za
    obtain ⟨ad177, e177, hx177_0, hx177_1⟩ := at_T43 HR0.out x3_1 p177 q177
    have hw177_1 := hx177_1
    have hw177_0 := hx177_0
    cases e177
    replace hx177_0 := zk HB.out hx177_0
    replace hx177_1 := zk HB.out hx177_1
    replace p177 := eq_true p177
    replace q177 := eq_true q177
    refine start_ (n := 23) (S := fun w' => w'.cell? (ad177.add ((x3_1).toNat * 2)) = some (.int .i64 ((rd_T43 l0 x3_1).f0)) ∧ w'.cell? ⟨(ad177.add ((x3_1).toNat * 2)).block, (ad177.add ((x3_1).toNat * 2)).off + 1, none⟩ = some (.int .i64 ((rd_T43 l0 x3_1).f1))) (ds := []) zA34 (by kernel_rfl) rfl rfl ⟨(zk HB.out hw177_0), (zk HB.out hw177_1)⟩ (fun hHeld => ?_); refine with_tabW spec_IsShape.tab4 spec_IsShape.bits4 (fun HT_ HW_ => ?_)
    generalize wr.drew = w18 at HB hx177_0 hx177_1 hHeld ⊢
    refine zp 0 (some 10) ?_ zA35 rfl rfl (Or.inl ⟨by rfl, ?_⟩) ?_ ?_ ?_
    rotate_left
    ·intro w'
     go_simp
     with_reducible rfl
    rotate_left
    ·simp only [Act.put, xA, xB, xC, i64_w, i32_w]
     rfl
    refine zp 1 (some 11) ?_ zA36 rfl rfl (Or.inl ⟨by rfl, ?_⟩) ?_ ?_ ?_
    rotate_left
    ·intro w'
     go_simp
     with_reducible rfl
    rotate_left
    ·simp only [Act.put, xA, xB, xC, i64_w, i32_w]
     rfl
    refine zp 2 (some 12) ?_ zA37 rfl rfl (Or.inl ⟨by rfl, ?_⟩) ?_ ?_ ?_
    rotate_left
    ·intro w'
     go_simp
     with_reducible rfl
    rotate_left
    ·simp only [Act.put, xA, xB, xC, i64_w, i32_w]
     rfl
    refine zu 3 (some 13) ?_ zA38 rfl rfl (Or.inl ⟨by rfl, ?_⟩) hHeld ?_ ?_ ?_
    rotate_left
    ·rintro w' ⟨s0, s1⟩
     go_simp
     with_reducible rfl
    rotate_left
    ·simp only [Act.put, xA, xB, xC, i64_w, i32_w]
     rfl
    refine one_ (i := 4) (N := some 14) zA39 rfl rfl (one_of HT_.out (by kernel_rfl)) (by decide) (fun K hK => ?_)
    refine goes_ Try.func57 (by kernel_rfl) rfl #[.agg #[.int .i64 ((rd_T43 l0 x3_1).f0), .int .i64 ((rd_T43 l0 x3_1).f1)]] (by rfl) rfl rfl zm ?_
    with_reducible refine (spec_l02Cell.calls ((rd_T43 l0 x3_1).f0) ((rd_T43 l0 x3_1).f1) true _ A4.out).mono ?_
    rintro e w19 ⟨rfl, hb⟩
    refine ⟨_, rfl, ?_⟩
    have n0_ := aM (below_step zb hb)
    clear HB
    have HB := n0_
    clear n0_
    (try clear hb)
    (try clear hb2)
    (try clear hk)
    (try clear hi)
    refine hK.out _ _ ⟨(zk HB.out hw177_0), (zk HB.out hw177_1)⟩ (fun hHeld => ?_)
    clear hK K
    refine norm_ (a' := ?_) ?_ ?_
    rotate_left
    ·show Act.put _ (some 14) _ = _
     simp only [Act.put, xA, xB, xC, i64_w, i32_w]
     rfl
    refine zp 5 (some 15) ?_ zA40 rfl rfl (Or.inl ⟨by rfl, ?_⟩) ?_ ?_ ?_
    rotate_left
    ·intro w'
     go_simp
     with_reducible rfl
    rotate_left
    ·simp only [Act.put, xA, xB, xC, i64_w, i32_w]
     rfl
    refine zp 6 (some 16) ?_ zA41 rfl rfl (Or.inl ⟨by rfl, ?_⟩) ?_ ?_ ?_
    rotate_left
    ·intro w'
     go_simp
     with_reducible rfl
    rotate_left
    ·simp only [Act.put, xA, xB, xC, i64_w, i32_w]
     rfl
    refine zp 7 (some 17) ?_ zA42 rfl rfl (Or.inl ⟨by rfl, ?_⟩) ?_ ?_ ?_
    rotate_left
    ·intro w'
     go_simp
     with_reducible rfl
    rotate_left
    ·simp only [Act.put, xA, xB, xC, i64_w, i32_w]
     rfl
    refine zp 8 (some 18) ?_ zA43 rfl rfl (Or.inl ⟨by rfl, ?_⟩) ?_ ?_ ?_
    rotate_left
    ·intro w'
     go_simp
     with_reducible rfl
    rotate_left
    ·simp only [Act.put, xA, xB, xC, i64_w, i32_w]
     rfl
    refine zp 9 (some 19) ?_ zA44 rfl rfl (Or.inl ⟨by rfl, ?_⟩) ?_ ?_ ?_
    rotate_left
    ·intro w'
     go_simp
     with_reducible rfl
    rotate_left
    ·simp only [Act.put, xA, xB, xC, i64_w, i32_w]
     rfl
    refine zp 10 (some 20) undef zA45 rfl rfl (Or.inr ⟨by rfl, rfl⟩) ?_ ?_ ?_
    rotate_left
    ·simp only [Act.put, xA, xB, xC, i64_w, i32_w]
     rfl
    refine zp 11 (some 21) undef zA46 rfl rfl (Or.inr ⟨by rfl, rfl⟩) ?_ ?_ ?_
    rotate_left
    ·simp only [Act.put, xA, xB, xC, i64_w, i32_w]
     rfl
    refine zp 12 (some 22) undef zA47 rfl rfl (Or.inr ⟨by rfl, rfl⟩) ?_ ?_ ?_
    rotate_left
    ·simp only [Act.put, xA, xB, xC, i64_w, i32_w]
     rfl
    refine zp 13 (some 23) undef zA48 rfl rfl (Or.inr ⟨by rfl, rfl⟩) ?_ ?_ ?_
    rotate_left
    ·simp only [Act.put, xA, xB, xC, i64_w, i32_w]
     rfl
    refine zp 14 (some 24) undef zA49 rfl rfl (Or.inr ⟨by rfl, rfl⟩) ?_ ?_ ?_
    rotate_left
    ·simp only [Act.put, xA, xB, xC, i64_w, i32_w]
     rfl
    refine zp 15 (some 25) undef zA50 rfl rfl (Or.inr ⟨by rfl, rfl⟩) ?_ ?_ ?_
    rotate_left
    ·simp only [Act.put, xA, xB, xC, i64_w, i32_w]
     rfl
    refine zp 16 (some 26) undef zA51 rfl rfl (Or.inr ⟨by rfl, rfl⟩) ?_ ?_ ?_
    rotate_left
    ·simp only [Act.put, xA, xB, xC, i64_w, i32_w]
     rfl
    refine zp 17 (some 27) undef zA52 rfl rfl (Or.inr ⟨by rfl, rfl⟩) ?_ ?_ ?_
    rotate_left
    ·simp only [Act.put, xA, xB, xC, i64_w, i32_w]
     rfl
    refine zp 18 (some 28) undef zA53 rfl rfl (Or.inr ⟨by rfl, rfl⟩) ?_ ?_ ?_
    rotate_left
    ·simp only [Act.put, xA, xB, xC, i64_w, i32_w]
     rfl
    refine zp 19 (some 29) undef zA54 rfl rfl (Or.inr ⟨by rfl, rfl⟩) ?_ ?_ ?_
    rotate_left
    ·simp only [Act.put, xA, xB, xC, i64_w, i32_w]
     rfl
    refine zp 20 (some 30) undef zA55 rfl rfl (Or.inr ⟨by rfl, rfl⟩) ?_ ?_ ?_
    rotate_left
    ·simp only [Act.put, xA, xB, xC, i64_w, i32_w]
     rfl
    refine zp 21 (some 31) ?_ zA56 rfl rfl (Or.inl ⟨by rfl, ?_⟩) ?_ ?_ ?_
    rotate_left
    ·intro w'
     go_simp
     with_reducible rfl
    rotate_left
    ·simp only [Act.put, xA, xB, xC, i64_w, i32_w]
     rfl
    refine zp 22 (some 32) ?_ zA57 rfl rfl (Or.inl ⟨by rfl, ?_⟩) ?_ ?_ ?_
    rotate_left
    ·intro w'
     go_simp
     with_reducible rfl
    rotate_left
    ·simp only [Act.put, xA, xB, xC, i64_w, i32_w]
     rfl
    refine done_ (done_of HT_.out (by kernel_rfl)) ?_
    try go_wp2
    go_roundg k1
    case measure => have := HK1.out; omega
    case rel => exact ⟨(wrap64 (x3_1 + 1)), zr, H', ⟨by have := HK1.out; omega⟩, ⟨zb⟩⟩
   rw [if_pos c6] at H
   have c6b0 : decide (0 < x3_1) = true := decide_eq_true c6
   clear c6
   obtain ⟨ji7, hji7⟩ : ∃ j_ : Int, (wrap64 (x3_1 - 1)) = j_ := ⟨_, rfl⟩
   replace H : (if 0 ≤ (ji7) then (if (ji7) < (l0.length : Int) then ((spec_l02Less.f ((rd_T43 l0 (ji7)).f0) ((rd_T43 l0 (ji7)).f1) ((rd_T43 l0 x3_1).f0) ((rd_T43 l0 x3_1).f1)).bind fun t181 => (if t181 = true then (spec_IsShape.l0 k1 l0 (wrap64 (x3_1 + 1))) else (some false))) else (none)) else (none)) = some r := by first | (rw [hji7] at H; exact H) | (simp only [hji7] at H ⊢; exact H)
   (try rw [hji7] at A4)
   have hji7w : (IntKind.i64.wrap (x3_1 - 1)) = ji7 := (i64_w _).trans hji7
   by_cases c8 : 0 ≤ (ji7)
   rotate_left
   ·rw [if_neg c8] at H
    exact absurd H (by simp)
   rw [if_pos c8] at H
   have c8b0 : decide (0 ≤ (ji7)) = true := decide_eq_true c8
   clear c8
   by_cases c9 : (ji7) < (l0.length : Int)
   rotate_left
   ·rw [if_neg c9] at H
    exact absurd H (by simp)
   rw [if_pos c9] at H
   have c9b0 : decide ((ji7) < (l0.length : Int)) = true := decide_eq_true c9
   clear c9
   replace H := Option.bind_eq_some_iff.mp H
   obtain ⟨t181, A100, H⟩ := H
   replace H : (if t181 = true then (spec_IsShape.l0 k1 l0 (wrap64 (x3_1 + 1))) else (some false)) = some r := H
   have A10 := aM A100
   clear A100
   by_cases c11 : t181 = true
   rotate_left
   ·replace c11 := Bool.eq_false_iff.mpr c11
    subst c11
    have H1 : (some false) = some r := by rw [if_neg (show ¬ (false = true) by decide)] at H; exact H
    clear H
    have H := H1
    clear H1
    obtain rfl := Option.some.inj H
    try go_wp2
    have n0_ := aM (below_drew1 HB.out)
    clear HB
    have HB := n0_
    clear n0_
    have p177 : 0 ≤ (x3_1 : Int) := of_decide_eq_true za
    have q177 : x3_1 < (l0.length : Int) := of_decide_eq_true za
    obtain ⟨ad177, e177, hx177_0, hx177_1⟩ := at_T43 HR0.out x3_1 p177 q177
    have hw177_1 := hx177_1
    have hw177_0 := hx177_0
    cases e177
    replace hx177_0 := zk HB.out hx177_0
    replace hx177_1 := zk HB.out hx177_1
    replace p177 := eq_true p177
    replace q177 := eq_true q177
    have p179 : 0 ≤ ((ji7) : Int) := of_decide_eq_true za
    have q179 : (ji7) < (l0.length : Int) := of_decide_eq_true za
    obtain ⟨ad179, e179, hx179_0, hx179_1⟩ := at_T43 HR0.out (ji7) p179 q179
    have hw179_1 := hx179_1
    have hw179_0 := hx179_0
    obtain rfl : ad177 = ad179 := (by injection e179)
    replace hx179_0 := zk HB.out hx179_0
    replace hx179_1 := zk HB.out hx179_1
    replace p179 := eq_true p179
    replace q179 := eq_true q179
    have p180 : 0 ≤ (x3_1 : Int) := of_decide_eq_true za
    have q180 : x3_1 < (l0.length : Int) := of_decide_eq_true za
    obtain ⟨ad180, e180, hx180_0, hx180_1⟩ := at_T43 HR0.out x3_1 p180 q180
    have hw180_1 := hx180_1
    have hw180_0 := hx180_0
    obtain rfl : ad177 = ad180 := (by injection e180)
    replace hx180_0 := zk HB.out hx180_0
    replace hx180_1 := zk HB.out hx180_1
    replace p180 := eq_true p180
    replace q180 := eq_true q180
    refine start_ (n := 23) (S := fun w' => w'.cell? (ad177.add ((x3_1).toNat * 2)) = some (.int .i64 ((rd_T43 l0 x3_1).f0)) ∧ w'.cell? ⟨(ad177.add ((x3_1).toNat * 2)).block, (ad177.add ((x3_1).toNat * 2)).off + 1, none⟩ = some (.int .i64 ((rd_T43 l0 x3_1).f1)) ∧ w'.cell? (ad177.add (((ji7)).toNat * 2)) = some (.int .i64 ((rd_T43 l0 (ji7)).f0)) ∧ w'.cell? ⟨(ad177.add (((ji7)).toNat * 2)).block, (ad177.add (((ji7)).toNat * 2)).off + 1, none⟩ = some (.int .i64 ((rd_T43 l0 (ji7)).f1)) ∧ w'.cell? (ad177.add ((x3_1).toNat * 2)) = some (.int .i64 ((rd_T43 l0 x3_1).f0)) ∧ w'.cell? ⟨(ad177.add ((x3_1).toNat * 2)).block, (ad177.add ((x3_1).toNat * 2)).off + 1, none⟩ = some (.int .i64 ((rd_T43 l0 x3_1).f1))) (ds := []) zA34 (by kernel_rfl) rfl rfl ⟨(zk HB.out hw177_0), (zk HB.out hw177_1), (zk HB.out hw179_0), (zk HB.out hw179_1), (zk HB.out hw180_0), (zk HB.out hw180_1)⟩ (fun hHeld => ?_); refine with_tabW spec_IsShape.tab4 spec_IsShape.bits4 (fun HT_ HW_ => ?_)
    generalize wr.drew = w15 at HB hx177_0 hx177_1 hx179_0 hx179_1 hx180_0 hx180_1 hHeld ⊢
    refine zp 0 (some 10) ?_ zA35 rfl rfl (Or.inl ⟨by rfl, ?_⟩) ?_ ?_ ?_
    rotate_left
    ·intro w'
     go_simp
     with_reducible rfl
    rotate_left
    ·simp only [Act.put, xA, xB, xC, i64_w, i32_w]
     rfl
    refine zp 1 (some 11) ?_ zA36 rfl rfl (Or.inl ⟨by rfl, ?_⟩) ?_ ?_ ?_
    rotate_left
    ·intro w'
     go_simp
     with_reducible rfl
    rotate_left
    ·simp only [Act.put, xA, xB, xC, i64_w, i32_w]
     rfl
    refine zp 2 (some 12) ?_ zA37 rfl rfl (Or.inl ⟨by rfl, ?_⟩) ?_ ?_ ?_
    rotate_left
    ·intro w'
     go_simp
     with_reducible rfl
    rotate_left
    ·simp only [Act.put, xA, xB, xC, i64_w, i32_w]
     rfl
    refine zu 3 (some 13) ?_ zA38 rfl rfl (Or.inl ⟨by rfl, ?_⟩) hHeld ?_ ?_ ?_
    rotate_left
    ·rintro w' ⟨s0, s1, s2, s3, s4, s5⟩
     go_simp
     with_reducible rfl
    rotate_left
    ·simp only [Act.put, xA, xB, xC, i64_w, i32_w]
     rfl
    refine one_ (i := 4) (N := some 14) zA39 rfl rfl (one_of HT_.out (by kernel_rfl)) (by decide) (fun K hK => ?_)
    refine goes_ Try.func57 (by kernel_rfl) rfl #[.agg #[.int .i64 ((rd_T43 l0 x3_1).f0), .int .i64 ((rd_T43 l0 x3_1).f1)]] (by rfl) rfl rfl zm ?_
    with_reducible refine (spec_l02Cell.calls ((rd_T43 l0 x3_1).f0) ((rd_T43 l0 x3_1).f1) true _ A4.out).mono ?_
    rintro e w16 ⟨rfl, hb⟩
    refine ⟨_, rfl, ?_⟩
    have n0_ := aM (below_step zb hb)
    clear HB
    have HB := n0_
    clear n0_
    (try clear hb)
    (try clear hb2)
    (try clear hk)
    (try clear hi)
    refine hK.out _ _ ⟨(zk HB.out hw177_0), (zk HB.out hw177_1), (zk HB.out hw179_0), (zk HB.out hw179_1), (zk HB.out hw180_0), (zk HB.out hw180_1)⟩ (fun hHeld => ?_)
    clear hK K
    refine norm_ (a' := ?_) ?_ ?_
    rotate_left
    ·show Act.put _ (some 14) _ = _
     simp only [Act.put, xA, xB, xC, i64_w, i32_w]
     rfl
    refine zp 5 (some 15) ?_ zA40 rfl rfl (Or.inl ⟨by rfl, ?_⟩) ?_ ?_ ?_
    rotate_left
    ·intro w'
     go_simp
     with_reducible rfl
    rotate_left
    ·simp only [Act.put, xA, xB, xC, i64_w, i32_w]
     rfl
    refine zp 6 (some 16) ?_ zA41 rfl rfl (Or.inl ⟨by rfl, ?_⟩) ?_ ?_ ?_
    rotate_left
    ·intro w'
     go_simp
     with_reducible rfl
    rotate_left
    ·simp only [Act.put, xA, xB, xC, i64_w, i32_w]
     rfl
    refine zp 7 (some 17) ?_ zA42 rfl rfl (Or.inl ⟨by rfl, ?_⟩) ?_ ?_ ?_
    rotate_left
    ·intro w'
     go_simp
     with_reducible rfl
    rotate_left
    ·simp only [Act.put, xA, xB, xC, i64_w, i32_w]
     rfl
    refine zp 8 (some 18) ?_ zA43 rfl rfl (Or.inl ⟨by rfl, ?_⟩) ?_ ?_ ?_
    rotate_left
    ·intro w'
     go_simp
     with_reducible rfl
    rotate_left
    ·simp only [Act.put, xA, xB, xC, i64_w, i32_w]
     rfl
    refine zp 9 (some 19) ?_ zA44 rfl rfl (Or.inl ⟨by rfl, ?_⟩) ?_ ?_ ?_
    rotate_left
    ·intro w'
     go_simp
     with_reducible rfl
    rotate_left
    ·simp only [Act.put, xA, xB, xC, i64_w, i32_w]
     rfl
    refine zp 10 (some 20) ?_ zA45 rfl rfl (Or.inl ⟨by rfl, ?_⟩) ?_ ?_ ?_
    rotate_left
    ·intro w'
     go_simp
     with_reducible rfl
    rotate_left
    ·simp only [Act.put, xA, xB, xC, i64_w, i32_w]
     rfl
    refine zp 11 (some 21) ?_ zA46 rfl rfl (Or.inl ⟨by rfl, ?_⟩) ?_ ?_ ?_
    rotate_left
    ·intro w'
     go_simp
     with_reducible rfl
    rotate_left
    ·simp only [Act.put, xA, xB, xC, i64_w, i32_w]
     rfl
    refine zp 12 (some 22) ?_ zA47 rfl rfl (Or.inl ⟨by rfl, ?_⟩) ?_ ?_ ?_
    rotate_left
    ·intro w'
     go_simp
     with_reducible rfl
    rotate_left
    ·simp only [Act.put, xA, xB, xC, i64_w, i32_w]
     rfl
    refine zp 13 (some 23) ?_ zA48 rfl rfl (Or.inl ⟨by rfl, ?_⟩) ?_ ?_ ?_
    rotate_left
    ·intro w'
     go_simp
     with_reducible rfl
    rotate_left
    ·simp only [Act.put, xA, xB, xC, i64_w, i32_w]
     rfl
    refine zp 15 (some 25) ?_ zA58 rfl rfl (Or.inl ⟨by rfl, ?_⟩) ?_ ?_ ?_
    rotate_left
    ·intro w'
     go_simp
     with_reducible rfl
    rotate_left
    ·simp only [Act.put, xA, xB, xC, i64_w, i32_w]
     rfl
    refine zp 16 (some 26) ?_ zA59 rfl rfl (Or.inl ⟨by rfl, ?_⟩) ?_ ?_ ?_
    rotate_left
    ·intro w'
     go_simp
     with_reducible rfl
    rotate_left
    ·simp only [Act.put, xA, xB, xC, i64_w, i32_w]
     rfl
    refine zp 17 (some 27) ?_ zA60 rfl rfl (Or.inl ⟨by rfl, ?_⟩) ?_ ?_ ?_
    rotate_left
    ·intro w'
     go_simp
     with_reducible rfl
    rotate_left
    ·simp only [Act.put, xA, xB, xC, i64_w, i32_w]
     rfl
    refine zu 14 (some 24) ?_ zA52 rfl rfl (Or.inl ⟨by rfl, ?_⟩) hHeld ?_ ?_ ?_
    rotate_left
    ·rintro w' ⟨s0, s1, s2, s3, s4, s5⟩
     go_simp
     with_reducible rfl
    rotate_left
    ·simp only [Act.put, xA, xB, xC, i64_w, i32_w]
     rfl
    refine zu 18 (some 28) ?_ zA53 rfl rfl (Or.inl ⟨by rfl, ?_⟩) hHeld ?_ ?_ ?_
    rotate_left
    ·rintro w' ⟨s0, s1, s2, s3, s4, s5⟩
     go_simp
     with_reducible rfl
    rotate_left
    ·simp only [Act.put, xA, xB, xC, i64_w, i32_w]
     rfl
    refine one_ (i := 19) (N := some 29) zA54 rfl rfl (one_of HT_.out (by kernel_rfl)) (by decide) (fun K hK => ?_)
    refine goes_ Try.func43 (by kernel_rfl) rfl #[.agg #[.int .i64 ((rd_T43 l0 (ji7)).f0), .int .i64 ((rd_T43 l0 (ji7)).f1)], .agg #[.int .i64 ((rd_T43 l0 x3_1).f0), .int .i64 ((rd_T43 l0 x3_1).f1)]] (by rfl) rfl rfl (by (try simp only [mA, mB, mC]); first | done | (simp only [hji7]; rfl) | rfl | (simp only [lD, lT]; rfl)) ?_
    with_reducible refine (spec_l02Less.calls ((rd_T43 l0 (ji7)).f0) ((rd_T43 l0 (ji7)).f1) ((rd_T43 l0 x3_1).f0) ((rd_T43 l0 x3_1).f1) false _ A10.out).mono ?_
    rintro e w17 ⟨rfl, hb⟩
    refine ⟨_, rfl, ?_⟩
    have n0_ := aM (below_step zb hb)
    clear HB
    have HB := n0_
    clear n0_
    (try clear hb)
    (try clear hb2)
    (try clear hk)
    (try clear hi)
    refine hK.out _ _ ⟨(zk HB.out hw177_0), (zk HB.out hw177_1), (zk HB.out hw179_0), (zk HB.out hw179_1), (zk HB.out hw180_0), (zk HB.out hw180_1)⟩ (fun hHeld => ?_)
    clear hK K
    refine norm_ (a' := ?_) ?_ ?_
    rotate_left
    ·show Act.put _ (some 29) _ = _
     simp only [Act.put, xA, xB, xC, i64_w, i32_w]
     rfl
    refine zp 20 (some 30) ?_ zA55 rfl rfl (Or.inl ⟨by rfl, ?_⟩) ?_ ?_ ?_
    rotate_left
    ·intro w'
     go_simp
     with_reducible rfl
    rotate_left
    ·simp only [Act.put, xA, xB, xC, i64_w, i32_w]
     rfl
    refine zp 21 (some 31) ?_ zA56 rfl rfl (Or.inl ⟨by rfl, ?_⟩) ?_ ?_ ?_
    rotate_left
    ·intro w'
     go_simp
     with_reducible rfl
    rotate_left
    ·simp only [Act.put, xA, xB, xC, i64_w, i32_w]
     rfl
    refine zp 22 (some 32) ?_ zA57 rfl rfl (Or.inl ⟨by rfl, ?_⟩) ?_ ?_ ?_
    rotate_left
    ·intro w'
     go_simp
     with_reducible rfl
    rotate_left
    ·simp only [Act.put, xA, xB, xC, i64_w, i32_w]
     rfl
    refine done_ (done_of HT_.out (by kernel_rfl)) ?_
    try go_wp2
    go_ret
    exact ⟨by first | rfl | (simp [errW_none, errW_some] <;> rfl) | (simp only [← hji7]; first | rfl | (simp [errW_none, errW_some] <;> rfl)) | (simp [*, errW_none, errW_some] <;> rfl), zb⟩
   subst c11
   have H1 : (spec_IsShape.l0 k1 l0 (wrap64 (x3_1 + 1))) = some r := by rw [if_pos rfl] at H; exact H
   clear H
   have H := H1
   clear H1
   have H' := aM H
   clear H
   try go_wp2
   have n0_ := aM (below_drew1 HB.out)
   clear HB
   have HB := n0_
   clear n0_
   have p177 : 0 ≤ (x3_1 : Int) := of_decide_eq_true za
   have q177 : x3_1 < (l0.length : Int) := of_decide_eq_true za
   obtain ⟨ad177, e177, hx177_0, hx177_1⟩ := at_T43 HR0.out x3_1 p177 q177
   have hw177_1 := hx177_1
   have hw177_0 := hx177_0
   cases e177
   replace hx177_0 := zk HB.out hx177_0
   replace hx177_1 := zk HB.out hx177_1
   replace p177 := eq_true p177
   replace q177 := eq_true q177
   have p179 : 0 ≤ ((ji7) : Int) := of_decide_eq_true za
   have q179 : (ji7) < (l0.length : Int) := of_decide_eq_true za
   obtain ⟨ad179, e179, hx179_0, hx179_1⟩ := at_T43 HR0.out (ji7) p179 q179
   have hw179_1 := hx179_1
   have hw179_0 := hx179_0
   obtain rfl : ad177 = ad179 := (by injection e179)
   replace hx179_0 := zk HB.out hx179_0
   replace hx179_1 := zk HB.out hx179_1
   replace p179 := eq_true p179
   replace q179 := eq_true q179
   have p180 : 0 ≤ (x3_1 : Int) := of_decide_eq_true za
   have q180 : x3_1 < (l0.length : Int) := of_decide_eq_true za
   obtain ⟨ad180, e180, hx180_0, hx180_1⟩ := at_T43 HR0.out x3_1 p180 q180
   have hw180_1 := hx180_1
   have hw180_0 := hx180_0
   obtain rfl : ad177 = ad180 := (by injection e180)
   replace hx180_0 := zk HB.out hx180_0
   replace hx180_1 := zk HB.out hx180_1
   replace p180 := eq_true p180
   replace q180 := eq_true q180
   refine start_ (n := 23) (S := fun w' => w'.cell? (ad177.add ((x3_1).toNat * 2)) = some (.int .i64 ((rd_T43 l0 x3_1).f0)) ∧ w'.cell? ⟨(ad177.add ((x3_1).toNat * 2)).block, (ad177.add ((x3_1).toNat * 2)).off + 1, none⟩ = some (.int .i64 ((rd_T43 l0 x3_1).f1)) ∧ w'.cell? (ad177.add (((ji7)).toNat * 2)) = some (.int .i64 ((rd_T43 l0 (ji7)).f0)) ∧ w'.cell? ⟨(ad177.add (((ji7)).toNat * 2)).block, (ad177.add (((ji7)).toNat * 2)).off + 1, none⟩ = some (.int .i64 ((rd_T43 l0 (ji7)).f1)) ∧ w'.cell? (ad177.add ((x3_1).toNat * 2)) = some (.int .i64 ((rd_T43 l0 x3_1).f0)) ∧ w'.cell? ⟨(ad177.add ((x3_1).toNat * 2)).block, (ad177.add ((x3_1).toNat * 2)).off + 1, none⟩ = some (.int .i64 ((rd_T43 l0 x3_1).f1))) (ds := []) zA34 (by kernel_rfl) rfl rfl ⟨(zk HB.out hw177_0), (zk HB.out hw177_1), (zk HB.out hw179_0), (zk HB.out hw179_1), (zk HB.out hw180_0), (zk HB.out hw180_1)⟩ (fun hHeld => ?_); refine with_tabW spec_IsShape.tab4 spec_IsShape.bits4 (fun HT_ HW_ => ?_)
   generalize wr.drew = w12 at HB hx177_0 hx177_1 hx179_0 hx179_1 hx180_0 hx180_1 hHeld ⊢
   refine zp 0 (some 10) ?_ zA35 rfl rfl (Or.inl ⟨by rfl, ?_⟩) ?_ ?_ ?_
   rotate_left
   ·intro w'
    go_simp
    with_reducible rfl
   rotate_left
   ·simp only [Act.put, xA, xB, xC, i64_w, i32_w]
    rfl
   refine zp 1 (some 11) ?_ zA36 rfl rfl (Or.inl ⟨by rfl, ?_⟩) ?_ ?_ ?_
   rotate_left
   ·intro w'
    go_simp
    with_reducible rfl
   rotate_left
   ·simp only [Act.put, xA, xB, xC, i64_w, i32_w]
    rfl
   refine zp 2 (some 12) ?_ zA37 rfl rfl (Or.inl ⟨by rfl, ?_⟩) ?_ ?_ ?_
   rotate_left
   ·intro w'
    go_simp
    with_reducible rfl
   rotate_left
   ·simp only [Act.put, xA, xB, xC, i64_w, i32_w]
    rfl
   refine zu 3 (some 13) ?_ zA38 rfl rfl (Or.inl ⟨by rfl, ?_⟩) hHeld ?_ ?_ ?_
   rotate_left
   ·rintro w' ⟨s0, s1, s2, s3, s4, s5⟩
    go_simp
    with_reducible rfl
   rotate_left
   ·simp only [Act.put, xA, xB, xC, i64_w, i32_w]
    rfl
   refine one_ (i := 4) (N := some 14) zA39 rfl rfl (one_of HT_.out (by kernel_rfl)) (by decide) (fun K hK => ?_)
   refine goes_ Try.func57 (by kernel_rfl) rfl #[.agg #[.int .i64 ((rd_T43 l0 x3_1).f0), .int .i64 ((rd_T43 l0 x3_1).f1)]] (by rfl) rfl rfl zm ?_
   with_reducible refine (spec_l02Cell.calls ((rd_T43 l0 x3_1).f0) ((rd_T43 l0 x3_1).f1) true _ A4.out).mono ?_
   rintro e w13 ⟨rfl, hb⟩
   refine ⟨_, rfl, ?_⟩
   have n0_ := aM (below_step zb hb)
   clear HB
   have HB := n0_
   clear n0_
   (try clear hb)
   (try clear hb2)
   (try clear hk)
   (try clear hi)
   refine hK.out _ _ ⟨(zk HB.out hw177_0), (zk HB.out hw177_1), (zk HB.out hw179_0), (zk HB.out hw179_1), (zk HB.out hw180_0), (zk HB.out hw180_1)⟩ (fun hHeld => ?_)
   clear hK K
   refine norm_ (a' := ?_) ?_ ?_
   rotate_left
   ·show Act.put _ (some 14) _ = _
    simp only [Act.put, xA, xB, xC, i64_w, i32_w]
    rfl
   refine zp 5 (some 15) ?_ zA40 rfl rfl (Or.inl ⟨by rfl, ?_⟩) ?_ ?_ ?_
   rotate_left
   ·intro w'
    go_simp
    with_reducible rfl
   rotate_left
   ·simp only [Act.put, xA, xB, xC, i64_w, i32_w]
    rfl
   refine zp 6 (some 16) ?_ zA41 rfl rfl (Or.inl ⟨by rfl, ?_⟩) ?_ ?_ ?_
   rotate_left
   ·intro w'
    go_simp
    with_reducible rfl
   rotate_left
   ·simp only [Act.put, xA, xB, xC, i64_w, i32_w]
    rfl
   refine zp 7 (some 17) ?_ zA42 rfl rfl (Or.inl ⟨by rfl, ?_⟩) ?_ ?_ ?_
   rotate_left
   ·intro w'
    go_simp
    with_reducible rfl
   rotate_left
   ·simp only [Act.put, xA, xB, xC, i64_w, i32_w]
    rfl
   refine zp 8 (some 18) ?_ zA43 rfl rfl (Or.inl ⟨by rfl, ?_⟩) ?_ ?_ ?_
   rotate_left
   ·intro w'
    go_simp
    with_reducible rfl
   rotate_left
   ·simp only [Act.put, xA, xB, xC, i64_w, i32_w]
    rfl
   refine zp 9 (some 19) ?_ zA44 rfl rfl (Or.inl ⟨by rfl, ?_⟩) ?_ ?_ ?_
   rotate_left
   ·intro w'
    go_simp
    with_reducible rfl
   rotate_left
   ·simp only [Act.put, xA, xB, xC, i64_w, i32_w]
    rfl
   refine zp 10 (some 20) ?_ zA45 rfl rfl (Or.inl ⟨by rfl, ?_⟩) ?_ ?_ ?_
   rotate_left
   ·intro w'
    go_simp
    with_reducible rfl
   rotate_left
   ·simp only [Act.put, xA, xB, xC, i64_w, i32_w]
    rfl
   refine zp 11 (some 21) ?_ zA46 rfl rfl (Or.inl ⟨by rfl, ?_⟩) ?_ ?_ ?_
   rotate_left
   ·intro w'
    go_simp
    with_reducible rfl
   rotate_left
   ·simp only [Act.put, xA, xB, xC, i64_w, i32_w]
    rfl
   refine zp 12 (some 22) ?_ zA47 rfl rfl (Or.inl ⟨by rfl, ?_⟩) ?_ ?_ ?_
   rotate_left
   ·intro w'
    go_simp
    with_reducible rfl
   rotate_left
   ·simp only [Act.put, xA, xB, xC, i64_w, i32_w]
    rfl
   refine zp 13 (some 23) ?_ zA48 rfl rfl (Or.inl ⟨by rfl, ?_⟩) ?_ ?_ ?_
   rotate_left
   ·intro w'
    go_simp
    with_reducible rfl
   rotate_left
   ·simp only [Act.put, xA, xB, xC, i64_w, i32_w]
    rfl
   refine zp 15 (some 25) ?_ zA58 rfl rfl (Or.inl ⟨by rfl, ?_⟩) ?_ ?_ ?_
   rotate_left
   ·intro w'
    go_simp
    with_reducible rfl
   rotate_left
   ·simp only [Act.put, xA, xB, xC, i64_w, i32_w]
    rfl
   refine zp 16 (some 26) ?_ zA59 rfl rfl (Or.inl ⟨by rfl, ?_⟩) ?_ ?_ ?_
   rotate_left
   ·intro w'
    go_simp
    with_reducible rfl
   rotate_left
   ·simp only [Act.put, xA, xB, xC, i64_w, i32_w]
    rfl
   refine zp 17 (some 27) ?_ zA60 rfl rfl (Or.inl ⟨by rfl, ?_⟩) ?_ ?_ ?_
   rotate_left
   ·intro w'
    go_simp
    with_reducible rfl
   rotate_left
   ·simp only [Act.put, xA, xB, xC, i64_w, i32_w]
    rfl
   refine zu 14 (some 24) ?_ zA52 rfl rfl (Or.inl ⟨by rfl, ?_⟩) hHeld ?_ ?_ ?_
   rotate_left
   ·rintro w' ⟨s0, s1, s2, s3, s4, s5⟩
    go_simp
    with_reducible rfl
   rotate_left
   ·simp only [Act.put, xA, xB, xC, i64_w, i32_w]
    rfl
   refine zu 18 (some 28) ?_ zA53 rfl rfl (Or.inl ⟨by rfl, ?_⟩) hHeld ?_ ?_ ?_
   rotate_left
   ·rintro w' ⟨s0, s1, s2, s3, s4, s5⟩
    go_simp
    with_reducible rfl
   rotate_left
   ·simp only [Act.put, xA, xB, xC, i64_w, i32_w]
    rfl
   refine one_ (i := 19) (N := some 29) zA54 rfl rfl (one_of HT_.out (by kernel_rfl)) (by decide) (fun K hK => ?_)
   refine goes_ Try.func43 (by kernel_rfl) rfl #[.agg #[.int .i64 ((rd_T43 l0 (ji7)).f0), .int .i64 ((rd_T43 l0 (ji7)).f1)], .agg #[.int .i64 ((rd_T43 l0 x3_1).f0), .int .i64 ((rd_T43 l0 x3_1).f1)]] (by rfl) rfl rfl (by (try simp only [mA, mB, mC]); first | done | (simp only [hji7]; rfl) | rfl | (simp only [lD, lT]; rfl)) ?_
   with_reducible refine (spec_l02Less.calls ((rd_T43 l0 (ji7)).f0) ((rd_T43 l0 (ji7)).f1) ((rd_T43 l0 x3_1).f0) ((rd_T43 l0 x3_1).f1) true _ A10.out).mono ?_
   rintro e w14 ⟨rfl, hb⟩
   refine ⟨_, rfl, ?_⟩
   have n0_ := aM (below_step zb hb)
   clear HB
   have HB := n0_
   clear n0_
   (try clear hb)
   (try clear hb2)
   (try clear hk)
   (try clear hi)
   refine hK.out _ _ ⟨(zk HB.out hw177_0), (zk HB.out hw177_1), (zk HB.out hw179_0), (zk HB.out hw179_1), (zk HB.out hw180_0), (zk HB.out hw180_1)⟩ (fun hHeld => ?_)
   clear hK K
   refine norm_ (a' := ?_) ?_ ?_
   rotate_left
   ·show Act.put _ (some 29) _ = _
    simp only [Act.put, xA, xB, xC, i64_w, i32_w]
    rfl
   refine zp 20 (some 30) ?_ zA55 rfl rfl (Or.inl ⟨by rfl, ?_⟩) ?_ ?_ ?_
   rotate_left
   ·intro w'
    go_simp
    with_reducible rfl
   rotate_left
   ·simp only [Act.put, xA, xB, xC, i64_w, i32_w]
    rfl
   refine zp 21 (some 31) ?_ zA56 rfl rfl (Or.inl ⟨by rfl, ?_⟩) ?_ ?_ ?_
   rotate_left
   ·intro w'
    go_simp
    with_reducible rfl
   rotate_left
   ·simp only [Act.put, xA, xB, xC, i64_w, i32_w]
    rfl
   refine zp 22 (some 32) ?_ zA57 rfl rfl (Or.inl ⟨by rfl, ?_⟩) ?_ ?_ ?_
   rotate_left
   ·intro w'
    go_simp
    with_reducible rfl
   rotate_left
   ·simp only [Act.put, xA, xB, xC, i64_w, i32_w]
    rfl
   refine done_ (done_of HT_.out (by kernel_rfl)) ?_
   try go_wp2
   go_roundg k1
   case measure => have := HK1.out; omega
   case rel => exact ⟨(wrap64 (x3_1 + 1)), zr, H', ⟨by have := HK1.out; omega⟩, ⟨zb⟩⟩
def spec_l07Forms.l0 : Nat → Int → List (S43) → List (List (S43)) → Bool → Int → Option ((List (List (S43))) × Bool)
 | 0, _, _, _, _, _ => none
 | k + 1, x0, x1, x6, x7, x8 => if x8 < 12 then ((spec_l07Form.f k x0 x1 x8).bind fun t185 => (if x7 = true then ((spec_IsShape.f k t185).bind fun t188 => (if x6.length < 5864062014805 then (spec_l07Forms.l0 k x0 x1 (x6 ++ [t185]) t188 (wrap64 (x8 + 1))) else (none))) else (if x6.length < 5864062014805 then (spec_l07Forms.l0 k x0 x1 (x6 ++ [t185]) false (wrap64 (x8 + 1))) else (none)))) else (some (x6, x7))
def spec_l07Forms.f (k : Nat) (a0 : Int) (l1 : List (S43)) : Option ((List (List (S43))) × Bool) := spec_l07Forms.l0 k a0 l1 (([] : List (List (S43)))) true 0
theorem spec_l07Forms.calls (k : Nat) (a0 : Int) (A1 : Option Addr) (c1 : Nat) (l1 : List (S43)) (r1 : List (List (S43))) (r2 : Bool) (w : World) (hr1 : Kd.C k43 w A1 l1.length l1) (hc1 : l1.length ≤ c1) (h : spec_l07Forms.f k a0 l1 = some (r1, r2)) :
  Calls Try.prog 24 #[.int .i64 a0, .slice A1 l1.length c1] w fun e w' => ∃ v0_ : Value, e = .returned (.tuple #[v0_, .bool r2]) ∧ Kd.S (Kd.slice 43 k43) 36 w' w.heap.size (fun _ => True) v0_ r1 ∧ Below w.heap.size w w' := by
 have HR1 := aM hr1
 have HC1 := aM hc1
 clear hr1 hc1
 have HB := aM (Below.refl w.heap.size w)
 have H : (spec_l07Forms.l0 k a0 l1 (([] : List (List (S43)))) true 0) = some (r1, r2) := h
 clear h
 obtain ⟨y182, hy182⟩ : ∃ y_ : List (List (S43)), y_ = (([] : List (List (S43)))) := ⟨_, rfl⟩
 replace H : (spec_l07Forms.l0 k a0 l1 y182 true 0) = some (r1, r2) := zy H hy182
 have Ny182 := aM hy182
 clear hy182
 have H' := aM H
 clear H
 go_enter Try.func24, Try.ntmps24
 go_wp2_with (first | ((with_reducible refine gate_dst (N := 10) rfl ?_); refine Kd.S_lit (Kd.slice 43 k43) _ 36 ?hg (N := 10) ?hd (xs := ([] : List (List (S43)))) (inner := []) (ok := fun _ => True) (okp := fun _ => True) ?hr ?hp (fun _ hk => hk) trivial (Below.refl _ _) (Nat.le_refl _) (by simp) ?_; (case hd => rfl); (case hg => rfl); (case hr => first | (go_simp; done) | (go_simp; rfl)); (case hp => exact (Reps.none _ _)); intro v183 w3 ho4 hb hg_ hnew_; clear hg_ hnew_; (first | rw [← Ny182.out] at ho4 | (simp only [Int.reduceToNat] at ho4; rw [← Ny182.out] at ho4)); have n0_ := aM (Kd.S_lower ho4 (below_size zb)); have n1_ := aM (below_step zb hb); clear HB; have HO184 := n0_; have HB := n1_; clear n0_ n1_; clear hb ho4))
 go_loopg [6, 7, 8] k (fun kq v6 v7 v8 w' => ∃ (x6_1 : List (List (S43))) (x7_1 : Bool) (x8_1 : Int), v7 = .bool x7_1 ∧ v8 = .int .i64 x8_1 ∧ Aside0 (spec_l07Forms.l0 kq a0 l1 x6_1 x7_1 x8_1 = some (r1, r2)) ∧ Aside0 (kq ≤ k) ∧ Aside0 (Kd.S (Kd.slice 43 k43) 36 w' w.heap.size (fun _ => True) v6 x6_1) ∧ Aside0 (Below w.heap.size w w'))
 case atStart => exact ⟨(y182), (true), (0), zr, zr, H', ⟨Nat.le_refl _⟩, ⟨mS_ HO184.out⟩, ⟨zb⟩⟩
 case round =>
  clear H'
  try clear c1
  try clear c2
  try clear p2
  obtain ⟨x6_1, x7_1, x8_1, rfl, rfl, HA, HK1, HO_6, HB⟩ := hrel
  cases gk with
  | zero => exact absurd HA.out (by simp [spec_l07Forms.l0])
  | succ k1 =>
   have H := HA.out
   clear HA
   simp only [spec_l07Forms.l0] at H
   by_cases c5 : x8_1 < 12
   rotate_left
   ·rw [if_neg c5] at H
    have c5b0 : decide (x8_1 < 12) = false := decide_eq_false c5
    clear c5
    simp only [Option.some.injEq, Prod.mk.injEq] at H
    obtain ⟨rfl, rfl⟩ := H
    go_wp2
    go_ret2
    exact ⟨_, zw, mS_ HO_6.out, zb⟩
   rw [if_pos c5] at H
   have c5b0 : decide (x8_1 < 12) = true := decide_eq_true c5
   clear c5
   replace H := Option.bind_eq_some_iff.mp H
   obtain ⟨t185, A60, H⟩ := H
   replace H : (if x7_1 = true then ((spec_IsShape.f k1 t185).bind fun t188 => (if x6_1.length < 5864062014805 then (spec_l07Forms.l0 k1 a0 l1 (x6_1 ++ [t185]) t188 (wrap64 (x8_1 + 1))) else (none))) else (if x6_1.length < 5864062014805 then (spec_l07Forms.l0 k1 a0 l1 (x6_1 ++ [t185]) false (wrap64 (x8_1 + 1))) else (none))) = some (r1, r2) := H
   have A6 := aM A60
   clear A60
   by_cases c7 : x7_1 = true
   rotate_left
   ·replace c7 := Bool.eq_false_iff.mpr c7
    subst c7
    have H1 : (if x6_1.length < 5864062014805 then (spec_l07Forms.l0 k1 a0 l1 (x6_1 ++ [t185]) false (wrap64 (x8_1 + 1))) else (none)) = some (r1, r2) := by rw [if_neg (show ¬ (false = true) by decide)] at H; exact H
    clear H
    have H := H1
    clear H1
    by_cases c14 : x6_1.length < 5864062014805
    rotate_left
    ·rw [if_neg c14] at H
     exact absurd H (by simp)
    rw [if_pos c14] at H
    have LMc14 := aM c14
    clear c14
    obtain ⟨y192, hy192⟩ : ∃ y_ : List (List (S43)), y_ = (x6_1 ++ [t185]) := ⟨_, rfl⟩
    replace H : (spec_l07Forms.l0 k1 a0 l1 y192 false (wrap64 (x8_1 + 1))) = some (r1, r2) := zy H hy192
    have Ny192 := aM hy192
    clear hy192
    have H' := aM H
    clear H
    go_wp2_with (first | ((with_reducible refine gate_callee (f := 41) rfl ?_); refine goesL_ (some 18) rfl rfl Try.func41 (by kernel_rfl) rfl #[.int .i64 a0, .slice A1 l1.length c1, .int .i64 x8_1] rfl zm ?_; (with_reducible refine (spec_l07Form.calls k1 a0 _ _ l1 x8_1 t185 _ ?side1 ?side2 A6.out).mono ?_); (case side1 => repeat (first | exact (Kd.C_below HR1.out HB.out) | (with_reducible refine Kd.C_alloc ?_ _) | (with_reducible refine Kd.C_drewN ?_ _) | (with_reducible refine Kd.C_drew ?_))); (case side2 => exact HC1.out); rintro e w15 ⟨v186, rfl, ho0, hb⟩; refine ⟨_, rfl, ?_⟩; have n0_ := aM (Kd.S_elder' (mS_ HO_6.out) (Kd.R_base ho0) hb); have n1_ := aM (Kd.R_lower ho0 (below_size zb)); have n2_ := aM (below_step zb hb); clear HO_6 HB; have HO_6 := n0_; have HO187 := n1_; have HB := n2_; clear n0_ n1_ n2_; (try clear hb); (try clear hb2); (try clear hk); (try clear hi); (try clear ho0); obtain ⟨Ao17, co17, eo17⟩ := Kd.R_slice HO187.out; subst eo17) | ((with_reducible refine gate_builtin (b := .append) (xs := #[.tmp 24, .tmp 26]) rfl ?_); at_builtin; refine Kd.S_append (Kd.slice 43 k43) (w0 := w) w.heap.size rfl (.tmp 24) (.tmp 26) 22 36 (.slice none 0 0) 24 rfl Try.underlying22 info36 rfl (by decide) (by omega) u6 x6_1 t185 [.slice Ao17 t185.length co17] (fun _ => True) (fun k_ => some k_ = (.slice Ao17 t185.length co17 : Value).ownBlock) rfl rfl ?aP (fun k_ hk_ => ((Kd.R_mono (ok' := fun k_ => ((fun _ => True)) k_ ∧ some k_ ≠ (u6 : Value).ownBlock) (Kd.R_apart' (HO187.out) (Kd.S_typed HO_6.out) (by decide)) (fun k_ hk => ⟨trivial, hk.2⟩))).1 k_ hk_.symm) ?aF ?aO ?aB ?aS ?aL ?_; (case aP => exact Kd.M_row (Kd.R_mono (Kd.R_tight rfl (Kd.R_mono (ok' := fun k_ => ((fun _ => True)) k_ ∧ some k_ ≠ (u6 : Value).ownBlock) (Kd.R_apart' (HO187.out) (Kd.S_typed HO_6.out) (by decide)) (fun k_ hk => ⟨trivial, hk.2⟩))) (fun _ h_ => h_))); (case aB => exact zb); (case aF => exact (fun _ _ => trivial)); (case aO => exact (by (with_reducible repeat (first | apply Kd.S_alloc | apply Kd.S_drewN | apply Kd.S_drew)); exact Kd.S_mono HO_6.out (fun k_ hk => ⟨trivial, fun e_ => hk.2 e_⟩))); (case aS => exact (below_size zb)); (case aL => have := LMc14.out; omega); intro v193 w16 ho hb hg hat; rw [← Ny192.out] at ho; have n0_ := aM (hb); have n1_ := aM (ho); clear HB HO_6 HO187; have HB := n0_; have HO194 := n1_; clear n0_ n1_; clear ho hb hg hat))
    go_roundg k1
    case measure => have := HK1.out; omega
    case rel => exact ⟨(y192), (false), (wrap64 (x8_1 + 1)), zr, zr, H', ⟨by have := HK1.out; omega⟩, ⟨mS_ HO194.out⟩, ⟨zb⟩⟩
   subst c7
   have H1 : ((spec_IsShape.f k1 t185).bind fun t188 => (if x6_1.length < 5864062014805 then (spec_l07Forms.l0 k1 a0 l1 (x6_1 ++ [t185]) t188 (wrap64 (x8_1 + 1))) else (none))) = some (r1, r2) := by rw [if_pos rfl] at H; exact H
   clear H
   have H := H1
   clear H1
   replace H := Option.bind_eq_some_iff.mp H
   obtain ⟨t188, A80, H⟩ := H
   replace H : (if x6_1.length < 5864062014805 then (spec_l07Forms.l0 k1 a0 l1 (x6_1 ++ [t185]) t188 (wrap64 (x8_1 + 1))) else (none)) = some (r1, r2) := H
   have A8 := aM A80
   clear A80
   by_cases c9 : x6_1.length < 5864062014805
   rotate_left
   ·rw [if_neg c9] at H
    exact absurd H (by simp)
   rw [if_pos c9] at H
   have LMc9 := aM c9
   clear c9
   obtain ⟨y189, hy189⟩ : ∃ y_ : List (List (S43)), y_ = (x6_1 ++ [t185]) := ⟨_, rfl⟩
   replace H : (spec_l07Forms.l0 k1 a0 l1 y189 t188 (wrap64 (x8_1 + 1))) = some (r1, r2) := zy H hy189
   have Ny189 := aM hy189
   clear hy189
   have H' := aM H
   clear H
   go_wp2_with (first | ((with_reducible refine gate_callee (f := 41) rfl ?_); refine goesL_ (some 18) rfl rfl Try.func41 (by kernel_rfl) rfl #[.int .i64 a0, .slice A1 l1.length c1, .int .i64 x8_1] rfl zm ?_; (with_reducible refine (spec_l07Form.calls k1 a0 _ _ l1 x8_1 t185 _ ?side1 ?side2 A6.out).mono ?_); (case side1 => repeat (first | exact (Kd.C_below HR1.out HB.out) | (with_reducible refine Kd.C_alloc ?_ _) | (with_reducible refine Kd.C_drewN ?_ _) | (with_reducible refine Kd.C_drew ?_))); (case side2 => exact HC1.out); rintro e w10 ⟨v186, rfl, ho0, hb⟩; refine ⟨_, rfl, ?_⟩; have n0_ := aM (Kd.S_elder' (mS_ HO_6.out) (Kd.R_base ho0) hb); have n1_ := aM (Kd.R_lower ho0 (below_size zb)); have n2_ := aM (below_step zb hb); clear HO_6 HB; have HO_6 := n0_; have HO187 := n1_; have HB := n2_; clear n0_ n1_ n2_; (try clear hb); (try clear hb2); (try clear hk); (try clear hi); (try clear ho0); obtain ⟨Ao11, co11, eo11⟩ := Kd.R_slice HO187.out; subst eo11) | (go_at_call 42; (with_reducible refine (spec_IsShape.calls k1 _ _ t185 t188 _ ?side1 ?side2 A8.out).mono ?_); (case side1 => exact zc HO187.out); (case side2 => exact (Kd.R_reads' HO187.out).2.1); rintro e w12 ⟨rfl, hb⟩; have n0_ := aM (Kd.S_below (mS_ HO_6.out) hb); have n1_ := aM (Kd.R_below (mR_ HO187.out) hb); have n2_ := aM (below_step zb hb); clear HO_6 HO187 HB; have HO_6 := n0_; have HO187 := n1_; have HB := n2_; clear n0_ n1_ n2_; (try clear hb); (try clear hb2); (try clear hk); (try clear hi)) | ((with_reducible refine gate_builtin (b := .append) (xs := #[.tmp 24, .tmp 26]) rfl ?_); at_builtin; refine Kd.S_append (Kd.slice 43 k43) (w0 := w) w.heap.size rfl (.tmp 24) (.tmp 26) 22 36 (.slice none 0 0) 24 rfl Try.underlying22 info36 rfl (by decide) (by omega) u6 x6_1 t185 [.slice Ao11 t185.length co11] (fun _ => True) (fun k_ => some k_ = (.slice Ao11 t185.length co11 : Value).ownBlock) rfl rfl ?aP (fun k_ hk_ => ((Kd.R_mono (ok' := fun k_ => ((fun _ => True)) k_ ∧ some k_ ≠ (u6 : Value).ownBlock) (Kd.R_apart' (HO187.out) (Kd.S_typed HO_6.out) (by decide)) (fun k_ hk => ⟨trivial, hk.2⟩))).1 k_ hk_.symm) ?aF ?aO ?aB ?aS ?aL ?_; (case aP => exact Kd.M_row (Kd.R_mono (Kd.R_tight rfl (Kd.R_mono (ok' := fun k_ => ((fun _ => True)) k_ ∧ some k_ ≠ (u6 : Value).ownBlock) (Kd.R_apart' (HO187.out) (Kd.S_typed HO_6.out) (by decide)) (fun k_ hk => ⟨trivial, hk.2⟩))) (fun _ h_ => h_))); (case aB => exact zb); (case aF => exact (fun _ _ => trivial)); (case aO => exact (by (with_reducible repeat (first | apply Kd.S_alloc | apply Kd.S_drewN | apply Kd.S_drew)); exact Kd.S_mono HO_6.out (fun k_ hk => ⟨trivial, fun e_ => hk.2 e_⟩))); (case aS => exact (below_size zb)); (case aL => have := LMc9.out; omega); intro v190 w13 ho hb hg hat; rw [← Ny189.out] at ho; have n0_ := aM (hb); have n1_ := aM (ho); clear HB HO_6 HO187; have HB := n0_; have HO191 := n1_; clear n0_ n1_; clear ho hb hg hat))
   go_roundg k1
   case measure => have := HK1.out; omega
   case rel => exact ⟨(y189), (t188), (wrap64 (x8_1 + 1)), zr, zr, H', ⟨by have := HK1.out; omega⟩, ⟨mS_ HO191.out⟩, ⟨zb⟩⟩
def spec_CompareShapes.l0 : Nat → List (S43) → List (S43) → Int → Option (Int)
 | 0, _, _, _ => none
 | k + 1, x0, x1, x5 => if x5 < (x0.length : Int) then (if 0 ≤ x5 then (if x5 < (x1.length : Int) then ((spec_l02Less.f ((rd_T43 x0 x5).f0) ((rd_T43 x0 x5).f1) ((rd_T43 x1 x5).f0) ((rd_T43 x1 x5).f1)).bind fun t197 => (if t197 = true then (some (-1)) else ((spec_l02Less.f ((rd_T43 x1 x5).f0) ((rd_T43 x1 x5).f1) ((rd_T43 x0 x5).f0) ((rd_T43 x0 x5).f1)).bind fun t200 => (if t200 = true then (some 1) else (spec_CompareShapes.l0 k x0 x1 (wrap64 (x5 + 1))))))) else (none)) else (none)) else (some 0)
def spec_CompareShapes.f (k : Nat) (l0 : List (S43)) (l1 : List (S43)) : Option (Int) := if (l0.length : Int) = (l1.length : Int) then (spec_CompareShapes.l0 k l0 l1 0) else (if (l0.length : Int) < (l1.length : Int) then (some (-1)) else (some 1))
def spec_CompareShapes.T8 : Bool × List (List Nat × List Nat) := (true, [([], []), ([], []), ([0, 1], [0, 1]), ([2], [2]), ([], []), ([], []), ([4, 5], [4, 5]), ([6], [6]), ([3, 7], [3, 7])])
def spec_CompareShapes.B8 : List Nat := [0, 0, 3, 7, 0, 0, 48, 112, 255]
theorem spec_CompareShapes.tab8 : rtab .any (opsOf Try.f25 8) = spec_CompareShapes.T8 := by kernel_rfl
theorem spec_CompareShapes.bits8 : waitsOk spec_CompareShapes.T8.2 spec_CompareShapes.B8 = true := by kernel_rfl
def spec_CompareShapes.T10 : Bool × List (List Nat × List Nat) := (true, [([], []), ([], []), ([0, 1], [0, 1]), ([2], [2]), ([], []), ([], []), ([4, 5], [4, 5]), ([6], [6]), ([3, 7], [3, 7])])
def spec_CompareShapes.B10 : List Nat := [0, 0, 3, 7, 0, 0, 48, 112, 255]
theorem spec_CompareShapes.tab10 : rtab .any (opsOf Try.f25 10) = spec_CompareShapes.T10 := by kernel_rfl
theorem spec_CompareShapes.bits10 : waitsOk spec_CompareShapes.T10.2 spec_CompareShapes.B10 = true := by kernel_rfl
theorem spec_CompareShapes.calls (k : Nat) (A0 : Option Addr) (c0 : Nat) (l0 : List (S43)) (A1 : Option Addr) (c1 : Nat) (l1 : List (S43)) (r : Int) (w : World) (hr0 : Kd.C k43 w A0 l0.length l0) (hc0 : l0.length ≤ c0) (hr1 : Kd.C k43 w A1 l1.length l1) (hc1 : l1.length ≤ c1) (h : spec_CompareShapes.f k l0 l1 = some r) :
  Calls Try.prog 25 #[.slice A0 l0.length c0, .slice A1 l1.length c1] w fun e w' => e = .returned (.int .i64 r) ∧ Below w.heap.size w w' := by
 have hu43 := Try.underlying43
 have HR0 := aM hr0
 have HC0 := aM hc0
 clear hr0 hc0
 have HR1 := aM hr1
 have HC1 := aM hc1
 clear hr1 hc1
 have HB := aM (Below.refl w.heap.size w)
 have H : (if (l0.length : Int) = (l1.length : Int) then (spec_CompareShapes.l0 k l0 l1 0) else (if (l0.length : Int) < (l1.length : Int) then (some (-1)) else (some 1))) = some r := h
 clear h
 by_cases c3 : (l0.length : Int) = (l1.length : Int)
 rotate_left
 ·rw [if_neg c3] at H
  have c3b0 : ((l0.length : Int) == (l1.length : Int)) = false := beq_eq_false_iff_ne.mpr c3
  have c3b1 : ((l0.length : Int) != (l1.length : Int)) = true := bne_iff_ne.mpr c3
  have c3b2 : (l0.length == l1.length) = false := by first | simpa using c3 | (simp at c3 ⊢; omega)
  by_cases c21 : (l0.length : Int) < (l1.length : Int)
  ·rw [if_pos c21] at H
   have c21b0 : decide ((l0.length : Int) < (l1.length : Int)) = true := decide_eq_true c21
   have c21b1 : decide (l0.length < l1.length) = true := decide_eq_true (Int.ofNat_lt.mp c21)
   clear c21
   obtain rfl := Option.some.inj H
   go_enter Try.func25, Try.ntmps25
   go_wp2
   go_ret
   exact ⟨zw, zb⟩
  rw [if_neg c21] at H
  have c21b0 : decide ((l0.length : Int) < (l1.length : Int)) = false := decide_eq_false c21
  have c21b1 : decide (l0.length < l1.length) = false := decide_eq_false (fun h => c21 (Int.ofNat_lt.mpr h))
  clear c21
  obtain rfl := Option.some.inj H
  go_enter Try.func25, Try.ntmps25
  go_wp2
  go_ret
  exact ⟨zw, zb⟩
 rw [if_pos c3] at H
 have c3b0 : ((l0.length : Int) == (l1.length : Int)) = true := beq_iff_eq.mpr c3
 have c3b1 : ((l0.length : Int) != (l1.length : Int)) = false := bne_eq_false_iff_eq.mpr c3
 have c3b2 : (l0.length == l1.length) = true := by first | simpa using c3 | (simp at c3 ⊢; omega)
 clear c3
 have H' := aM H
 clear H
 go_enter Try.func25, Try.ntmps25
 go_wp2
 go_loopg [5] k (fun kq v5 w' => ∃ (x5_1 : Int), v5 = .int .i64 x5_1 ∧ Aside0 (spec_CompareShapes.l0 kq l0 l1 x5_1 = some r) ∧ Aside0 (kq ≤ k) ∧ Aside0 (Below w.heap.size w w'))
 case atStart => exact ⟨(0), zr, H', ⟨Nat.le_refl _⟩, ⟨zb⟩⟩
 case round =>
  clear H'
  try clear c1
  try clear c2
  try clear p2
  try clear c3
  try clear c3b0
  try clear c3b1
  try clear c3b2
  obtain ⟨x5_1, rfl, HA, HK1, HB⟩ := hrel
  cases gk with
  | zero => exact absurd HA.out (by simp [spec_CompareShapes.l0])
  | succ k1 =>
   have H := HA.out
   clear HA
   simp only [spec_CompareShapes.l0] at H
   by_cases c4 : x5_1 < (l0.length : Int)
   rotate_left
   ·rw [if_neg c4] at H
    have c4b0 : decide (x5_1 < (l0.length : Int)) = false := decide_eq_false c4
    clear c4
    obtain rfl := Option.some.inj H
    go_wp2
    go_ret
    exact ⟨zw, zb⟩
   rw [if_pos c4] at H
   have c4b0 : decide (x5_1 < (l0.length : Int)) = true := decide_eq_true c4
   clear c4
   by_cases c5 : 0 ≤ x5_1
   rotate_left
   ·rw [if_neg c5] at H
    exact absurd H (by simp)
   rw [if_pos c5] at H
   have c5b0 : decide (0 ≤ x5_1) = true := decide_eq_true c5
   clear c5
   by_cases c6 : x5_1 < (l1.length : Int)
   rotate_left
   ·rw [if_neg c6] at H
    exact absurd H (by simp)
   rw [if_pos c6] at H
   have c6b0 : decide (x5_1 < (l1.length : Int)) = true := decide_eq_true c6
   clear c6
   replace H := Option.bind_eq_some_iff.mp H
   obtain ⟨t197, A70, H⟩ := H
   replace H : (if t197 = true then (some (-1)) else ((spec_l02Less.f ((rd_T43 l1 x5_1).f0) ((rd_T43 l1 x5_1).f1) ((rd_T43 l0 x5_1).f0) ((rd_T43 l0 x5_1).f1)).bind fun t200 => (if t200 = true then (some 1) else (spec_CompareShapes.l0 k1 l0 l1 (wrap64 (x5_1 + 1)))))) = some r := H
   have A7 := aM A70
   clear A70
   by_cases c8 : t197 = true
   ·subst c8
    have H1 : (some (-1)) = some r := by rw [if_pos rfl] at H; exact H
    clear H
    have H := H1
    clear H1
    obtain rfl := Option.some.inj H
    try go_wp2
    have n0_ := aM (below_drew1 HB.out)
    clear HB
    have HB := n0_
    clear n0_
    have p195 : 0 ≤ (x5_1 : Int) := of_decide_eq_true za
    have q195 : x5_1 < (l0.length : Int) := of_decide_eq_true za
    obtain ⟨ad195, e195, hx195_0, hx195_1⟩ := at_T43 HR0.out x5_1 p195 q195
    have hw195_1 := hx195_1
    have hw195_0 := hx195_0
    cases e195
    replace hx195_0 := zk HB.out hx195_0
    replace hx195_1 := zk HB.out hx195_1
    replace p195 := eq_true p195
    replace q195 := eq_true q195
    have p196 : 0 ≤ (x5_1 : Int) := of_decide_eq_true za
    have q196 : x5_1 < (l1.length : Int) := of_decide_eq_true za
    obtain ⟨ad196, e196, hx196_0, hx196_1⟩ := at_T43 HR1.out x5_1 p196 q196
    have hw196_1 := hx196_1
    have hw196_0 := hx196_0
    cases e196
    replace hx196_0 := zk HB.out hx196_0
    replace hx196_1 := zk HB.out hx196_1
    replace p196 := eq_true p196
    replace q196 := eq_true q196
    refine start_ (n := 9) (S := fun w' => w'.cell? (ad195.add ((x5_1).toNat * 2)) = some (.int .i64 ((rd_T43 l0 x5_1).f0)) ∧ w'.cell? ⟨(ad195.add ((x5_1).toNat * 2)).block, (ad195.add ((x5_1).toNat * 2)).off + 1, none⟩ = some (.int .i64 ((rd_T43 l0 x5_1).f1)) ∧ w'.cell? (ad196.add ((x5_1).toNat * 2)) = some (.int .i64 ((rd_T43 l1 x5_1).f0)) ∧ w'.cell? ⟨(ad196.add ((x5_1).toNat * 2)).block, (ad196.add ((x5_1).toNat * 2)).off + 1, none⟩ = some (.int .i64 ((rd_T43 l1 x5_1).f1))) (ds := []) zA61 (by kernel_rfl) rfl rfl ⟨(zk HB.out hw195_0), (zk HB.out hw195_1), (zk HB.out hw196_0), (zk HB.out hw196_1)⟩ (fun hHeld => ?_); refine with_tabW spec_CompareShapes.tab8 spec_CompareShapes.bits8 (fun HT_ HW_ => ?_)
    generalize wr.drew = w9 at HB hx195_0 hx195_1 hx196_0 hx196_1 hHeld ⊢
    refine zp 0 (some 22) ?_ zA62 rfl rfl (Or.inl ⟨by rfl, ?_⟩) ?_ ?_ ?_
    rotate_left
    ·intro w'
     go_simp
     with_reducible rfl
    rotate_left
    ·simp only [Act.put, xA, xB, xC, i64_w, i32_w]
     rfl
    refine zp 1 (some 23) ?_ zA63 rfl rfl (Or.inl ⟨by rfl, ?_⟩) ?_ ?_ ?_
    rotate_left
    ·intro w'
     go_simp
     with_reducible rfl
    rotate_left
    ·simp only [Act.put, xA, xB, xC, i64_w, i32_w]
     rfl
    refine zp 2 (some 24) ?_ zA64 rfl rfl (Or.inl ⟨by rfl, ?_⟩) ?_ ?_ ?_
    rotate_left
    ·intro w'
     go_simp
     with_reducible rfl
    rotate_left
    ·simp only [Act.put, xA, xB, xC, i64_w, i32_w]
     rfl
    refine zp 4 (some 26) ?_ zA65 rfl rfl (Or.inl ⟨by rfl, ?_⟩) ?_ ?_ ?_
    rotate_left
    ·intro w'
     go_simp
     with_reducible rfl
    rotate_left
    ·simp only [Act.put, xA, xB, xC, i64_w, i32_w]
     rfl
    refine zp 5 (some 27) ?_ #[true, true, true, false, true, true, false, false, false] rfl rfl (Or.inl ⟨by rfl, ?_⟩) ?_ ?_ ?_
    rotate_left
    ·intro w'
     go_simp
     with_reducible rfl
    rotate_left
    ·simp only [Act.put, xA, xB, xC, i64_w, i32_w]
     rfl
    refine zp 6 (some 28) ?_ #[true, true, true, false, true, true, true, false, false] rfl rfl (Or.inl ⟨by rfl, ?_⟩) ?_ ?_ ?_
    rotate_left
    ·intro w'
     go_simp
     with_reducible rfl
    rotate_left
    ·simp only [Act.put, xA, xB, xC, i64_w, i32_w]
     rfl
    refine zu 3 (some 25) ?_ #[true, true, true, true, true, true, true, false, false] rfl rfl (Or.inl ⟨by rfl, ?_⟩) hHeld ?_ ?_ ?_
    rotate_left
    ·rintro w' ⟨s0, s1, s2, s3⟩
     go_simp
     with_reducible rfl
    rotate_left
    ·simp only [Act.put, xA, xB, xC, i64_w, i32_w]
     rfl
    refine zu 7 (some 29) ?_ #[true, true, true, true, true, true, true, true, false] rfl rfl (Or.inl ⟨by rfl, ?_⟩) hHeld ?_ ?_ ?_
    rotate_left
    ·rintro w' ⟨s0, s1, s2, s3⟩
     go_simp
     with_reducible rfl
    rotate_left
    ·simp only [Act.put, xA, xB, xC, i64_w, i32_w]
     rfl
    refine one_ (i := 8) (N := some 30) #[true, true, true, true, true, true, true, true, true] rfl rfl (one_of HT_.out (by kernel_rfl)) (by decide) (fun K hK => ?_)
    refine goes_ Try.func43 (by kernel_rfl) rfl #[.agg #[.int .i64 ((rd_T43 l0 x5_1).f0), .int .i64 ((rd_T43 l0 x5_1).f1)], .agg #[.int .i64 ((rd_T43 l1 x5_1).f0), .int .i64 ((rd_T43 l1 x5_1).f1)]] (by rfl) rfl rfl zm ?_
    with_reducible refine (spec_l02Less.calls ((rd_T43 l0 x5_1).f0) ((rd_T43 l0 x5_1).f1) ((rd_T43 l1 x5_1).f0) ((rd_T43 l1 x5_1).f1) true _ A7.out).mono ?_
    rintro e w10 ⟨rfl, hb⟩
    refine ⟨_, rfl, ?_⟩
    have n0_ := aM (below_step zb hb)
    clear HB
    have HB := n0_
    clear n0_
    (try clear hb)
    (try clear hb2)
    (try clear hk)
    (try clear hi)
    refine hK.out _ _ ⟨(zk HB.out hw195_0), (zk HB.out hw195_1), (zk HB.out hw196_0), (zk HB.out hw196_1)⟩ (fun hHeld => ?_)
    clear hK K
    refine norm_ (a' := ?_) ?_ ?_
    rotate_left
    ·show Act.put _ (some 30) _ = _
     simp only [Act.put, xA, xB, xC, i64_w, i32_w]
     rfl
    refine done_ (done_of HT_.out (by kernel_rfl)) ?_
    try go_wp2
    go_ret
    exact ⟨zw, zb⟩
   replace c8 := Bool.eq_false_iff.mpr c8
   subst c8
   have H1 : ((spec_l02Less.f ((rd_T43 l1 x5_1).f0) ((rd_T43 l1 x5_1).f1) ((rd_T43 l0 x5_1).f0) ((rd_T43 l0 x5_1).f1)).bind fun t200 => (if t200 = true then (some 1) else (spec_CompareShapes.l0 k1 l0 l1 (wrap64 (x5_1 + 1))))) = some r := by rw [if_neg (show ¬ (false = true) by decide)] at H; exact H
   clear H
   have H := H1
   clear H1
   replace H := Option.bind_eq_some_iff.mp H
   obtain ⟨t200, A110, H⟩ := H
   replace H : (if t200 = true then (some 1) else (spec_CompareShapes.l0 k1 l0 l1 (wrap64 (x5_1 + 1)))) = some r := H
   have A11 := aM A110
   clear A110
   by_cases c12 : t200 = true
   ·subst c12
    have H1 : (some 1) = some r := by rw [if_pos rfl] at H; exact H
    clear H
    have H := H1
    clear H1
    obtain rfl := Option.some.inj H
    try go_wp2
    have n0_ := aM (below_drew1 HB.out)
    clear HB
    have HB := n0_
    clear n0_
    have p195 : 0 ≤ (x5_1 : Int) := of_decide_eq_true za
    have q195 : x5_1 < (l0.length : Int) := of_decide_eq_true za
    obtain ⟨ad195, e195, hx195_0, hx195_1⟩ := at_T43 HR0.out x5_1 p195 q195
    have hw195_1 := hx195_1
    have hw195_0 := hx195_0
    cases e195
    replace hx195_0 := zk HB.out hx195_0
    replace hx195_1 := zk HB.out hx195_1
    replace p195 := eq_true p195
    replace q195 := eq_true q195
    have p196 : 0 ≤ (x5_1 : Int) := of_decide_eq_true za
    have q196 : x5_1 < (l1.length : Int) := of_decide_eq_true za
    obtain ⟨ad196, e196, hx196_0, hx196_1⟩ := at_T43 HR1.out x5_1 p196 q196
    have hw196_1 := hx196_1
    have hw196_0 := hx196_0
    cases e196
    replace hx196_0 := zk HB.out hx196_0
    replace hx196_1 := zk HB.out hx196_1
    replace p196 := eq_true p196
    replace q196 := eq_true q196
    refine start_ (n := 9) (S := fun w' => w'.cell? (ad195.add ((x5_1).toNat * 2)) = some (.int .i64 ((rd_T43 l0 x5_1).f0)) ∧ w'.cell? ⟨(ad195.add ((x5_1).toNat * 2)).block, (ad195.add ((x5_1).toNat * 2)).off + 1, none⟩ = some (.int .i64 ((rd_T43 l0 x5_1).f1)) ∧ w'.cell? (ad196.add ((x5_1).toNat * 2)) = some (.int .i64 ((rd_T43 l1 x5_1).f0)) ∧ w'.cell? ⟨(ad196.add ((x5_1).toNat * 2)).block, (ad196.add ((x5_1).toNat * 2)).off + 1, none⟩ = some (.int .i64 ((rd_T43 l1 x5_1).f1))) (ds := []) zA61 (by kernel_rfl) rfl rfl ⟨(zk HB.out hw195_0), (zk HB.out hw195_1), (zk HB.out hw196_0), (zk HB.out hw196_1)⟩ (fun hHeld => ?_); refine with_tabW spec_CompareShapes.tab8 spec_CompareShapes.bits8 (fun HT_ HW_ => ?_)
    generalize wr.drew = w13 at HB hx195_0 hx195_1 hx196_0 hx196_1 hHeld ⊢
    refine zp 0 (some 22) ?_ zA62 rfl rfl (Or.inl ⟨by rfl, ?_⟩) ?_ ?_ ?_
    rotate_left
    ·intro w'
     go_simp
     with_reducible rfl
    rotate_left
    ·simp only [Act.put, xA, xB, xC, i64_w, i32_w]
     rfl
    refine zp 1 (some 23) ?_ zA63 rfl rfl (Or.inl ⟨by rfl, ?_⟩) ?_ ?_ ?_
    rotate_left
    ·intro w'
     go_simp
     with_reducible rfl
    rotate_left
    ·simp only [Act.put, xA, xB, xC, i64_w, i32_w]
     rfl
    refine zp 2 (some 24) ?_ zA64 rfl rfl (Or.inl ⟨by rfl, ?_⟩) ?_ ?_ ?_
    rotate_left
    ·intro w'
     go_simp
     with_reducible rfl
    rotate_left
    ·simp only [Act.put, xA, xB, xC, i64_w, i32_w]
     rfl
    refine zp 4 (some 26) ?_ zA65 rfl rfl (Or.inl ⟨by rfl, ?_⟩) ?_ ?_ ?_
    rotate_left
    ·intro w'
     go_simp
     with_reducible rfl
    rotate_left
    ·simp only [Act.put, xA, xB, xC, i64_w, i32_w]
     rfl
    refine zp 5 (some 27) ?_ #[true, true, true, false, true, true, false, false, false] rfl rfl (Or.inl ⟨by rfl, ?_⟩) ?_ ?_ ?_
    rotate_left
    ·intro w'
     go_simp
     with_reducible rfl
    rotate_left
    ·simp only [Act.put, xA, xB, xC, i64_w, i32_w]
     rfl
    refine zp 6 (some 28) ?_ #[true, true, true, false, true, true, true, false, false] rfl rfl (Or.inl ⟨by rfl, ?_⟩) ?_ ?_ ?_
    rotate_left
    ·intro w'
     go_simp
     with_reducible rfl
    rotate_left
    ·simp only [Act.put, xA, xB, xC, i64_w, i32_w]
     rfl
    refine zu 3 (some 25) ?_ #[true, true, true, true, true, true, true, false, false] rfl rfl (Or.inl ⟨by rfl, ?_⟩) hHeld ?_ ?_ ?_
    rotate_left
    ·rintro w' ⟨s0, s1, s2, s3⟩
     go_simp
     with_reducible rfl
    rotate_left
    ·simp only [Act.put, xA, xB, xC, i64_w, i32_w]
     rfl
    refine zu 7 (some 29) ?_ #[true, true, true, true, true, true, true, true, false] rfl rfl (Or.inl ⟨by rfl, ?_⟩) hHeld ?_ ?_ ?_
    rotate_left
    ·rintro w' ⟨s0, s1, s2, s3⟩
     go_simp
     with_reducible rfl
    rotate_left
    ·simp only [Act.put, xA, xB, xC, i64_w, i32_w]
     rfl
    refine one_ (i := 8) (N := some 30) #[true, true, true, true, true, true, true, true, true] rfl rfl (one_of HT_.out (by kernel_rfl)) (by decide) (fun K hK => ?_)
    refine goes_ Try.func43 (by kernel_rfl) rfl #[.agg #[.int .i64 ((rd_T43 l0 x5_1).f0), .int .i64 ((rd_T43 l0 x5_1).f1)], .agg #[.int .i64 ((rd_T43 l1 x5_1).f0), .int .i64 ((rd_T43 l1 x5_1).f1)]] (by rfl) rfl rfl zm ?_
    with_reducible refine (spec_l02Less.calls ((rd_T43 l0 x5_1).f0) ((rd_T43 l0 x5_1).f1) ((rd_T43 l1 x5_1).f0) ((rd_T43 l1 x5_1).f1) false _ A7.out).mono ?_
    rintro e w14 ⟨rfl, hb⟩
    refine ⟨_, rfl, ?_⟩
    have n0_ := aM (below_step zb hb)
    clear HB
    have HB := n0_
    clear n0_
    (try clear hb)
    (try clear hb2)
    (try clear hk)
    (try clear hi)
    refine hK.out _ _ ⟨(zk HB.out hw195_0), (zk HB.out hw195_1), (zk HB.out hw196_0), (zk HB.out hw196_1)⟩ (fun hHeld => ?_)
    clear hK K
    refine norm_ (a' := ?_) ?_ ?_
    rotate_left
    ·show Act.put _ (some 30) _ = _
     simp only [Act.put, xA, xB, xC, i64_w, i32_w]
     rfl
    refine done_ (done_of HT_.out (by kernel_rfl)) ?_
    try go_wp2
    have n0_ := aM (below_drew1 HB.out)
    clear HB
    have HB := n0_
    clear n0_
    have p198 : 0 ≤ (x5_1 : Int) := of_decide_eq_true za
    have q198 : x5_1 < (l1.length : Int) := of_decide_eq_true za
    obtain ⟨ad198, e198, hx198_0, hx198_1⟩ := at_T43 HR1.out x5_1 p198 q198
    have hw198_1 := hx198_1
    have hw198_0 := hx198_0
    obtain rfl : ad196 = ad198 := (by injection e198)
    replace hx198_0 := zk HB.out hx198_0
    replace hx198_1 := zk HB.out hx198_1
    replace p198 := eq_true p198
    replace q198 := eq_true q198
    have p199 : 0 ≤ (x5_1 : Int) := of_decide_eq_true za
    have q199 : x5_1 < (l0.length : Int) := of_decide_eq_true za
    obtain ⟨ad199, e199, hx199_0, hx199_1⟩ := at_T43 HR0.out x5_1 p199 q199
    have hw199_1 := hx199_1
    have hw199_0 := hx199_0
    obtain rfl : ad195 = ad199 := (by injection e199)
    replace hx199_0 := zk HB.out hx199_0
    replace hx199_1 := zk HB.out hx199_1
    replace p199 := eq_true p199
    replace q199 := eq_true q199
    refine start_ (n := 9) (S := fun w' => w'.cell? (ad196.add ((x5_1).toNat * 2)) = some (.int .i64 ((rd_T43 l1 x5_1).f0)) ∧ w'.cell? ⟨(ad196.add ((x5_1).toNat * 2)).block, (ad196.add ((x5_1).toNat * 2)).off + 1, none⟩ = some (.int .i64 ((rd_T43 l1 x5_1).f1)) ∧ w'.cell? (ad195.add ((x5_1).toNat * 2)) = some (.int .i64 ((rd_T43 l0 x5_1).f0)) ∧ w'.cell? ⟨(ad195.add ((x5_1).toNat * 2)).block, (ad195.add ((x5_1).toNat * 2)).off + 1, none⟩ = some (.int .i64 ((rd_T43 l0 x5_1).f1))) (ds := []) zA61 (by kernel_rfl) rfl rfl ⟨(zk HB.out hw198_0), (zk HB.out hw198_1), (zk HB.out hw199_0), (zk HB.out hw199_1)⟩ (fun hHeld => ?_); refine with_tabW spec_CompareShapes.tab10 spec_CompareShapes.bits10 (fun HT_ HW_ => ?_)
    generalize w14.drew = w15 at HB hx198_0 hx198_1 hx199_0 hx199_1 hHeld ⊢
    refine zp 0 (some 31) ?_ zA62 rfl rfl (Or.inl ⟨by rfl, ?_⟩) ?_ ?_ ?_
    rotate_left
    ·intro w'
     go_simp
     with_reducible rfl
    rotate_left
    ·simp only [Act.put, xA, xB, xC, i64_w, i32_w]
     rfl
    refine zp 1 (some 32) ?_ zA63 rfl rfl (Or.inl ⟨by rfl, ?_⟩) ?_ ?_ ?_
    rotate_left
    ·intro w'
     go_simp
     with_reducible rfl
    rotate_left
    ·simp only [Act.put, xA, xB, xC, i64_w, i32_w]
     rfl
    refine zp 2 (some 33) ?_ zA64 rfl rfl (Or.inl ⟨by rfl, ?_⟩) ?_ ?_ ?_
    rotate_left
    ·intro w'
     go_simp
     with_reducible rfl
    rotate_left
    ·simp only [Act.put, xA, xB, xC, i64_w, i32_w]
     rfl
    refine zp 4 (some 35) ?_ zA65 rfl rfl (Or.inl ⟨by rfl, ?_⟩) ?_ ?_ ?_
    rotate_left
    ·intro w'
     go_simp
     with_reducible rfl
    rotate_left
    ·simp only [Act.put, xA, xB, xC, i64_w, i32_w]
     rfl
    refine zp 5 (some 36) ?_ #[true, true, true, false, true, true, false, false, false] rfl rfl (Or.inl ⟨by rfl, ?_⟩) ?_ ?_ ?_
    rotate_left
    ·intro w'
     go_simp
     with_reducible rfl
    rotate_left
    ·simp only [Act.put, xA, xB, xC, i64_w, i32_w]
     rfl
    refine zp 6 (some 37) ?_ #[true, true, true, false, true, true, true, false, false] rfl rfl (Or.inl ⟨by rfl, ?_⟩) ?_ ?_ ?_
    rotate_left
    ·intro w'
     go_simp
     with_reducible rfl
    rotate_left
    ·simp only [Act.put, xA, xB, xC, i64_w, i32_w]
     rfl
    refine zu 3 (some 34) ?_ #[true, true, true, true, true, true, true, false, false] rfl rfl (Or.inl ⟨by rfl, ?_⟩) hHeld ?_ ?_ ?_
    rotate_left
    ·rintro w' ⟨s0, s1, s2, s3⟩
     go_simp
     with_reducible rfl
    rotate_left
    ·simp only [Act.put, xA, xB, xC, i64_w, i32_w]
     rfl
    refine zu 7 (some 38) ?_ #[true, true, true, true, true, true, true, true, false] rfl rfl (Or.inl ⟨by rfl, ?_⟩) hHeld ?_ ?_ ?_
    rotate_left
    ·rintro w' ⟨s0, s1, s2, s3⟩
     go_simp
     with_reducible rfl
    rotate_left
    ·simp only [Act.put, xA, xB, xC, i64_w, i32_w]
     rfl
    refine one_ (i := 8) (N := some 39) #[true, true, true, true, true, true, true, true, true] rfl rfl (one_of HT_.out (by kernel_rfl)) (by decide) (fun K hK => ?_)
    refine goes_ Try.func43 (by kernel_rfl) rfl #[.agg #[.int .i64 ((rd_T43 l1 x5_1).f0), .int .i64 ((rd_T43 l1 x5_1).f1)], .agg #[.int .i64 ((rd_T43 l0 x5_1).f0), .int .i64 ((rd_T43 l0 x5_1).f1)]] (by rfl) rfl rfl zm ?_
    with_reducible refine (spec_l02Less.calls ((rd_T43 l1 x5_1).f0) ((rd_T43 l1 x5_1).f1) ((rd_T43 l0 x5_1).f0) ((rd_T43 l0 x5_1).f1) true _ A11.out).mono ?_
    rintro e w16 ⟨rfl, hb⟩
    refine ⟨_, rfl, ?_⟩
    have n0_ := aM (below_step zb hb)
    clear HB
    have HB := n0_
    clear n0_
    (try clear hb)
    (try clear hb2)
    (try clear hk)
    (try clear hi)
    refine hK.out _ _ ⟨(zk HB.out hw198_0), (zk HB.out hw198_1), (zk HB.out hw199_0), (zk HB.out hw199_1)⟩ (fun hHeld => ?_)
    clear hK K
    refine norm_ (a' := ?_) ?_ ?_
    rotate_left
    ·show Act.put _ (some 39) _ = _
     simp only [Act.put, xA, xB, xC, i64_w, i32_w]
     rfl
    refine done_ (done_of HT_.out (by kernel_rfl)) ?_
    try go_wp2
    go_ret
    exact ⟨zw, zb⟩
   replace c12 := Bool.eq_false_iff.mpr c12
   subst c12
   have H1 : (spec_CompareShapes.l0 k1 l0 l1 (wrap64 (x5_1 + 1))) = some r := by rw [if_neg (show ¬ (false = true) by decide)] at H; exact H
   clear H
   have H := H1
   clear H1
   have H' := aM H
   clear H
   try go_wp2
   have n0_ := aM (below_drew1 HB.out)
   clear HB
   have HB := n0_
   clear n0_
   have p195 : 0 ≤ (x5_1 : Int) := of_decide_eq_true za
   have q195 : x5_1 < (l0.length : Int) := of_decide_eq_true za
   obtain ⟨ad195, e195, hx195_0, hx195_1⟩ := at_T43 HR0.out x5_1 p195 q195
   have hw195_1 := hx195_1
   have hw195_0 := hx195_0
   cases e195
   replace hx195_0 := zk HB.out hx195_0
   replace hx195_1 := zk HB.out hx195_1
   replace p195 := eq_true p195
   replace q195 := eq_true q195
   have p196 : 0 ≤ (x5_1 : Int) := of_decide_eq_true za
   have q196 : x5_1 < (l1.length : Int) := of_decide_eq_true za
   obtain ⟨ad196, e196, hx196_0, hx196_1⟩ := at_T43 HR1.out x5_1 p196 q196
   have hw196_1 := hx196_1
   have hw196_0 := hx196_0
   cases e196
   replace hx196_0 := zk HB.out hx196_0
   replace hx196_1 := zk HB.out hx196_1
   replace p196 := eq_true p196
   replace q196 := eq_true q196
   refine start_ (n := 9) (S := fun w' => w'.cell? (ad195.add ((x5_1).toNat * 2)) = some (.int .i64 ((rd_T43 l0 x5_1).f0)) ∧ w'.cell? ⟨(ad195.add ((x5_1).toNat * 2)).block, (ad195.add ((x5_1).toNat * 2)).off + 1, none⟩ = some (.int .i64 ((rd_T43 l0 x5_1).f1)) ∧ w'.cell? (ad196.add ((x5_1).toNat * 2)) = some (.int .i64 ((rd_T43 l1 x5_1).f0)) ∧ w'.cell? ⟨(ad196.add ((x5_1).toNat * 2)).block, (ad196.add ((x5_1).toNat * 2)).off + 1, none⟩ = some (.int .i64 ((rd_T43 l1 x5_1).f1))) (ds := []) zA61 (by kernel_rfl) rfl rfl ⟨(zk HB.out hw195_0), (zk HB.out hw195_1), (zk HB.out hw196_0), (zk HB.out hw196_1)⟩ (fun hHeld => ?_); refine with_tabW spec_CompareShapes.tab8 spec_CompareShapes.bits8 (fun HT_ HW_ => ?_)
   generalize wr.drew = w17 at HB hx195_0 hx195_1 hx196_0 hx196_1 hHeld ⊢
   refine zp 0 (some 22) ?_ zA62 rfl rfl (Or.inl ⟨by rfl, ?_⟩) ?_ ?_ ?_
   rotate_left
   ·intro w'
    go_simp
    with_reducible rfl
   rotate_left
   ·simp only [Act.put, xA, xB, xC, i64_w, i32_w]
    rfl
   refine zp 1 (some 23) ?_ zA63 rfl rfl (Or.inl ⟨by rfl, ?_⟩) ?_ ?_ ?_
   rotate_left
   ·intro w'
    go_simp
    with_reducible rfl
   rotate_left
   ·simp only [Act.put, xA, xB, xC, i64_w, i32_w]
    rfl
   refine zp 2 (some 24) ?_ zA64 rfl rfl (Or.inl ⟨by rfl, ?_⟩) ?_ ?_ ?_
   rotate_left
   ·intro w'
    go_simp
    with_reducible rfl
   rotate_left
   ·simp only [Act.put, xA, xB, xC, i64_w, i32_w]
    rfl
   refine zp 4 (some 26) ?_ zA65 rfl rfl (Or.inl ⟨by rfl, ?_⟩) ?_ ?_ ?_
   rotate_left
   ·intro w'
    go_simp
    with_reducible rfl
   rotate_left
   ·simp only [Act.put, xA, xB, xC, i64_w, i32_w]
    rfl
   refine zp 5 (some 27) ?_ #[true, true, true, false, true, true, false, false, false] rfl rfl (Or.inl ⟨by rfl, ?_⟩) ?_ ?_ ?_
   rotate_left
   ·intro w'
    go_simp
    with_reducible rfl
   rotate_left
   ·simp only [Act.put, xA, xB, xC, i64_w, i32_w]
    rfl
   refine zp 6 (some 28) ?_ #[true, true, true, false, true, true, true, false, false] rfl rfl (Or.inl ⟨by rfl, ?_⟩) ?_ ?_ ?_
   rotate_left
   ·intro w'
    go_simp
    with_reducible rfl
   rotate_left
   ·simp only [Act.put, xA, xB, xC, i64_w, i32_w]
    rfl
   refine zu 3 (some 25) ?_ #[true, true, true, true, true, true, true, false, false] rfl rfl (Or.inl ⟨by rfl, ?_⟩) hHeld ?_ ?_ ?_
   rotate_left
   ·rintro w' ⟨s0, s1, s2, s3⟩
    go_simp
    with_reducible rfl
   rotate_left
   ·simp only [Act.put, xA, xB, xC, i64_w, i32_w]
    rfl
   refine zu 7 (some 29) ?_ #[true, true, true, true, true, true, true, true, false] rfl rfl (Or.inl ⟨by rfl, ?_⟩) hHeld ?_ ?_ ?_
   rotate_left
   ·rintro w' ⟨s0, s1, s2, s3⟩
    go_simp
    with_reducible rfl
   rotate_left
   ·simp only [Act.put, xA, xB, xC, i64_w, i32_w]
    rfl
   refine one_ (i := 8) (N := some 30) #[true, true, true, true, true, true, true, true, true] rfl rfl (one_of HT_.out (by kernel_rfl)) (by decide) (fun K hK => ?_)
   refine goes_ Try.func43 (by kernel_rfl) rfl #[.agg #[.int .i64 ((rd_T43 l0 x5_1).f0), .int .i64 ((rd_T43 l0 x5_1).f1)], .agg #[.int .i64 ((rd_T43 l1 x5_1).f0), .int .i64 ((rd_T43 l1 x5_1).f1)]] (by rfl) rfl rfl zm ?_
   with_reducible refine (spec_l02Less.calls ((rd_T43 l0 x5_1).f0) ((rd_T43 l0 x5_1).f1) ((rd_T43 l1 x5_1).f0) ((rd_T43 l1 x5_1).f1) false _ A7.out).mono ?_
   rintro e w18 ⟨rfl, hb⟩
   refine ⟨_, rfl, ?_⟩
   have n0_ := aM (below_step zb hb)
   clear HB
   have HB := n0_
   clear n0_
   (try clear hb)
   (try clear hb2)
   (try clear hk)
   (try clear hi)
   refine hK.out _ _ ⟨(zk HB.out hw195_0), (zk HB.out hw195_1), (zk HB.out hw196_0), (zk HB.out hw196_1)⟩ (fun hHeld => ?_)
   clear hK K
   refine norm_ (a' := ?_) ?_ ?_
   rotate_left
   ·show Act.put _ (some 30) _ = _
    simp only [Act.put, xA, xB, xC, i64_w, i32_w]
    rfl
   refine done_ (done_of HT_.out (by kernel_rfl)) ?_
   try go_wp2
   have n0_ := aM (below_drew1 HB.out)
   clear HB
   have HB := n0_
   clear n0_
   have p198 : 0 ≤ (x5_1 : Int) := of_decide_eq_true za
   have q198 : x5_1 < (l1.length : Int) := of_decide_eq_true za
   obtain ⟨ad198, e198, hx198_0, hx198_1⟩ := at_T43 HR1.out x5_1 p198 q198
   have hw198_1 := hx198_1
   have hw198_0 := hx198_0
   obtain rfl : ad196 = ad198 := (by injection e198)
   replace hx198_0 := zk HB.out hx198_0
   replace hx198_1 := zk HB.out hx198_1
   replace p198 := eq_true p198
   replace q198 := eq_true q198
   have p199 : 0 ≤ (x5_1 : Int) := of_decide_eq_true za
   have q199 : x5_1 < (l0.length : Int) := of_decide_eq_true za
   obtain ⟨ad199, e199, hx199_0, hx199_1⟩ := at_T43 HR0.out x5_1 p199 q199
   have hw199_1 := hx199_1
   have hw199_0 := hx199_0
   obtain rfl : ad195 = ad199 := (by injection e199)
   replace hx199_0 := zk HB.out hx199_0
   replace hx199_1 := zk HB.out hx199_1
   replace p199 := eq_true p199
   replace q199 := eq_true q199
   refine start_ (n := 9) (S := fun w' => w'.cell? (ad196.add ((x5_1).toNat * 2)) = some (.int .i64 ((rd_T43 l1 x5_1).f0)) ∧ w'.cell? ⟨(ad196.add ((x5_1).toNat * 2)).block, (ad196.add ((x5_1).toNat * 2)).off + 1, none⟩ = some (.int .i64 ((rd_T43 l1 x5_1).f1)) ∧ w'.cell? (ad195.add ((x5_1).toNat * 2)) = some (.int .i64 ((rd_T43 l0 x5_1).f0)) ∧ w'.cell? ⟨(ad195.add ((x5_1).toNat * 2)).block, (ad195.add ((x5_1).toNat * 2)).off + 1, none⟩ = some (.int .i64 ((rd_T43 l0 x5_1).f1))) (ds := []) zA61 (by kernel_rfl) rfl rfl ⟨(zk HB.out hw198_0), (zk HB.out hw198_1), (zk HB.out hw199_0), (zk HB.out hw199_1)⟩ (fun hHeld => ?_); refine with_tabW spec_CompareShapes.tab10 spec_CompareShapes.bits10 (fun HT_ HW_ => ?_)
   generalize w18.drew = w19 at HB hx198_0 hx198_1 hx199_0 hx199_1 hHeld ⊢
   refine zp 0 (some 31) ?_ zA62 rfl rfl (Or.inl ⟨by rfl, ?_⟩) ?_ ?_ ?_
   rotate_left
   ·intro w'
    go_simp
    with_reducible rfl
   rotate_left
   ·simp only [Act.put, xA, xB, xC, i64_w, i32_w]
    rfl
   refine zp 1 (some 32) ?_ zA63 rfl rfl (Or.inl ⟨by rfl, ?_⟩) ?_ ?_ ?_
   rotate_left
   ·intro w'
    go_simp
    with_reducible rfl
   rotate_left
   ·simp only [Act.put, xA, xB, xC, i64_w, i32_w]
    rfl
   refine zp 2 (some 33) ?_ zA64 rfl rfl (Or.inl ⟨by rfl, ?_⟩) ?_ ?_ ?_
   rotate_left
   ·intro w'
    go_simp
    with_reducible rfl
   rotate_left
   ·simp only [Act.put, xA, xB, xC, i64_w, i32_w]
    rfl
   refine zp 4 (some 35) ?_ zA65 rfl rfl (Or.inl ⟨by rfl, ?_⟩) ?_ ?_ ?_
   rotate_left
   ·intro w'
    go_simp
    with_reducible rfl
   rotate_left
   ·simp only [Act.put, xA, xB, xC, i64_w, i32_w]
    rfl
   refine zp 5 (some 36) ?_ #[true, true, true, false, true, true, false, false, false] rfl rfl (Or.inl ⟨by rfl, ?_⟩) ?_ ?_ ?_
   rotate_left
   ·intro w'
    go_simp
    with_reducible rfl
   rotate_left
   ·simp only [Act.put, xA, xB, xC, i64_w, i32_w]
    rfl
   refine zp 6 (some 37) ?_ #[true, true, true, false, true, true, true, false, false] rfl rfl (Or.inl ⟨by rfl, ?_⟩) ?_ ?_ ?_
   rotate_left
   ·intro w'
    go_simp
    with_reducible rfl
   rotate_left
   ·simp only [Act.put, xA, xB, xC, i64_w, i32_w]
    rfl
   refine zu 3 (some 34) ?_ #[true, true, true, true, true, true, true, false, false] rfl rfl (Or.inl ⟨by rfl, ?_⟩) hHeld ?_ ?_ ?_
   rotate_left
   ·rintro w' ⟨s0, s1, s2, s3⟩
    go_simp
    with_reducible rfl
   rotate_left
   ·simp only [Act.put, xA, xB, xC, i64_w, i32_w]
    rfl
   refine zu 7 (some 38) ?_ #[true, true, true, true, true, true, true, true, false] rfl rfl (Or.inl ⟨by rfl, ?_⟩) hHeld ?_ ?_ ?_
   rotate_left
   ·rintro w' ⟨s0, s1, s2, s3⟩
    go_simp
    with_reducible rfl
   rotate_left
   ·simp only [Act.put, xA, xB, xC, i64_w, i32_w]
    rfl
   refine one_ (i := 8) (N := some 39) #[true, true, true, true, true, true, true, true, true] rfl rfl (one_of HT_.out (by kernel_rfl)) (by decide) (fun K hK => ?_)
   refine goes_ Try.func43 (by kernel_rfl) rfl #[.agg #[.int .i64 ((rd_T43 l1 x5_1).f0), .int .i64 ((rd_T43 l1 x5_1).f1)], .agg #[.int .i64 ((rd_T43 l0 x5_1).f0), .int .i64 ((rd_T43 l0 x5_1).f1)]] (by rfl) rfl rfl zm ?_
   with_reducible refine (spec_l02Less.calls ((rd_T43 l1 x5_1).f0) ((rd_T43 l1 x5_1).f1) ((rd_T43 l0 x5_1).f0) ((rd_T43 l0 x5_1).f1) false _ A11.out).mono ?_
   rintro e w20 ⟨rfl, hb⟩
   refine ⟨_, rfl, ?_⟩
   have n0_ := aM (below_step zb hb)
   clear HB
   have HB := n0_
   clear n0_
   (try clear hb)
   (try clear hb2)
   (try clear hk)
   (try clear hi)
   refine hK.out _ _ ⟨(zk HB.out hw198_0), (zk HB.out hw198_1), (zk HB.out hw199_0), (zk HB.out hw199_1)⟩ (fun hHeld => ?_)
   clear hK K
   refine norm_ (a' := ?_) ?_ ?_
   rotate_left
   ·show Act.put _ (some 39) _ = _
    simp only [Act.put, xA, xB, xC, i64_w, i32_w]
    rfl
   refine done_ (done_of HT_.out (by kernel_rfl)) ?_
   try go_wp2
   go_roundg k1
   case measure => have := HK1.out; omega
   case rel => exact ⟨(wrap64 (x5_1 + 1)), zr, H', ⟨by have := HK1.out; omega⟩, ⟨zb⟩⟩
end Go.Proofs.Ytibbjiehblpmfaa.F
end
section
namespace Go.Proofs.Ytibbjiehblpmfaa.F
open Go.RowKit Go.Proofs.YtibbjiehblpmfaaW.PrintWords Go.Proofs.YtibbjiehblpmfaaW.PrintLast Go.Proofs.YtibbjiehblpmfaaW.PrintMore
attribute [local go_sem] max2_int min2_int max_two min_two max_three min_three max_four min_four
set_option linter.unusedVariables false
set_option linter.unusedSimpArgs false
attribute [local go_sem high] eqA43
def spec_l07Least.l0 : Nat → List (List (S43)) → List (S43) → Int → Option ((List (S43)))
 | 0, _, _, _ => none
 | k + 1, x0, x3, x4 => if x4 < (x0.length : Int) then (if 0 ≤ x4 then ((spec_CompareShapes.f k (rd_L2 x0 x4) x3).bind fun t203 => (if t203 < 0 then (spec_l07Least.l0 k x0 (rd_L2 x0 x4) (wrap64 (x4 + 1))) else (spec_l07Least.l0 k x0 x3 (wrap64 (x4 + 1))))) else (none)) else (some x3)
def spec_l07Least.f (k : Nat) (l0 : List (List (S43))) : Option ((List (S43))) := if 0 < (l0.length : Int) then (spec_l07Least.l0 k l0 (rd_L2 l0 0) 1) else (none)
theorem spec_l07Least.calls (k : Nat) (P0_ : Nat → Prop) (A0 : Option Addr) (c0 : Nat) (l0 : List (List (S43))) (r : List (S43)) (w : World) (hs0 : Kd.V (Kd.slice 43 k43) 36 w w.heap.size (fun k_ => P0_ k_) (.slice A0 l0.length c0) l0) (h : spec_l07Least.f k l0 = some r) :
  Calls Try.prog 26 #[.slice A0 l0.length c0] w fun e w' => ∃ v0_ : Value, e = .returned (v0_) ∧ Kd.V k43 43 w' w.heap.size (fun k_ => (P0_ k_ ∨ w.heap.size ≤ k_)) v0_ r ∧ Below w.heap.size w w' := by
 have HO0 := aM (show Kd.V (Kd.slice 43 k43) 36 w w.heap.size (fun k_ => (P0_ k_ ∨ w.heap.size ≤ k_)) (.slice A0 l0.length c0) l0 from Kd.V_mono hs0 (fun k_ hk => .inl hk))
 have HB := aM (Below.refl w.heap.size w)
 have H : (if 0 < (l0.length : Int) then (spec_l07Least.l0 k l0 (rd_L2 l0 0) 1) else (none)) = some r := h
 clear h
 by_cases c2 : 0 < (l0.length : Int)
 rotate_left
 ·rw [if_neg c2] at H
  exact absurd H (by simp)
 rw [if_pos c2] at H
 have c2b0 : decide (0 < (l0.length : Int)) = true := decide_eq_true c2
 have c2b1 : decide (0 < l0.length) = true := decide_eq_true (by omega)
 clear c2
 have H' := aM H
 clear H
 have p201 : 0 ≤ (0 : Int) := (by omega)
 have q201 : 0 < (l0.length : Int) := of_decide_eq_true za
 obtain ⟨ad201, A201_0, c201_0, e201, hx201_0, hl201_0, hi201_0⟩ := at_L2 (Kd.V_reads' HO0.out).2.2 0 p201 q201
 cases e201
 obtain ⟨ce201, hce201, hMe201, hcc201⟩ := Kd.V_get HO0.out [] 0 p201 (by first | exact q201 | exact of_decide_eq_true za | (have e_ := (Kd.V_reads' HO0.out).1; omega))
 obtain ⟨ua201_0, uc201_0, rfl, ul201_0, ge201_0⟩ := Kd.FK_slice_open hMe201
 have hv201_0 := hcc201 0 _ rfl
 rw [Nat.add_zero, show ((Kd.slice 43 k43)).sz = 1 from rfl, Nat.mul_one] at hv201_0
 replace hv201_0 := Option.some.inj (hv201_0.symm.trans hx201_0)
 injection hv201_0 with hva_ hvn_ hvc_
 rw [hva_] at ge201_0
 rw [hvc_] at ul201_0
 have HL201_0 := aM (show Kd.V k43 43 _ w.heap.size _ _ (rd_L2 l0 0) from Kd.V_mk ul201_0 ge201_0)
 clear hva_ hvn_ hvc_ ge201_0 ul201_0
 clear hcc201 hce201
 have qi201 : (0 < l0.length) = True := eq_true (by omega)
 (try rw [show ((0 : Int)).toNat = 0 from rfl] at hx201_0)
 (try rw [Addr.add_zero'] at hx201_0)
 have HR201_0 := aM hi201_0
 have HC201_0 := aM hl201_0
 clear hi201_0 hl201_0
 replace p201 := eq_true p201
 replace q201 := eq_true q201
 go_enter Try.func26, Try.ntmps26
 go_wp2
 go_loopg [3, 4] k (fun kq v3 v4 w' => ∃ (x3_1 : List (S43)) (x4_1 : Int), v4 = .int .i64 x4_1 ∧ Aside0 (spec_l07Least.l0 kq l0 x3_1 x4_1 = some r) ∧ Aside0 (kq ≤ k) ∧ Aside0 (Kd.V (Kd.slice 43 k43) 36 w' w.heap.size (fun k_ => (P0_ k_ ∨ w.heap.size ≤ k_)) (.slice (some ad201) l0.length c0) l0) ∧ Aside0 (Kd.V k43 43 w' w.heap.size (fun k_ => (P0_ k_ ∨ w.heap.size ≤ k_)) v3 x3_1) ∧ Aside0 (Kd.C k43 w' A201_0 (rd_L2 l0 0).length (rd_L2 l0 0)) ∧ Aside0 (Below w.heap.size w w'))
 case atStart => exact ⟨(rd_L2 l0 0), (1), zr, H', ⟨Nat.le_refl _⟩, ⟨mV_ HO0.out⟩, ⟨mV_ HL201_0.out⟩, ⟨mQ_ HR201_0.out⟩, ⟨zb⟩⟩
 case round =>
  clear H'
  try clear c2
  try clear c2b0
  try clear c2b1
  try clear p2
  try clear q2
  try clear hx2
  try clear qi2
  try clear hx201_0
  try clear p201
  try clear q201
  obtain ⟨x3_1, x4_1, rfl, HA, HK1, HO_0, HO_3, HR201_0, HB⟩ := hrel
  cases gk with
  | zero => exact absurd HA.out (by simp [spec_l07Least.l0])
  | succ k1 =>
   have H := HA.out
   clear HA
   simp only [spec_l07Least.l0] at H
   by_cases c3 : x4_1 < (l0.length : Int)
   rotate_left
   ·rw [if_neg c3] at H
    have c3b0 : decide (x4_1 < (l0.length : Int)) = false := decide_eq_false c3
    clear c3
    obtain rfl := Option.some.inj H
    go_wp2
    go_ret
    exact ⟨_, zw, mV_ HO_3.out, zb⟩
   rw [if_pos c3] at H
   have c3b0 : decide (x4_1 < (l0.length : Int)) = true := decide_eq_true c3
   clear c3
   by_cases c4 : 0 ≤ x4_1
   rotate_left
   ·rw [if_neg c4] at H
    exact absurd H (by simp)
   rw [if_pos c4] at H
   have c4b0 : decide (0 ≤ x4_1) = true := decide_eq_true c4
   clear c4
   replace H := Option.bind_eq_some_iff.mp H
   obtain ⟨t203, A50, H⟩ := H
   replace H : (if t203 < 0 then (spec_l07Least.l0 k1 l0 (rd_L2 l0 x4_1) (wrap64 (x4_1 + 1))) else (spec_l07Least.l0 k1 l0 x3_1 (wrap64 (x4_1 + 1)))) = some r := H
   have A5 := aM A50
   clear A50
   by_cases c6 : t203 < 0
   ·rw [if_pos c6] at H
    have c6b0 : decide (t203 < 0) = true := decide_eq_true c6
    clear c6
    have H' := aM H
    clear H
    have p202 : 0 ≤ (x4_1 : Int) := of_decide_eq_true za
    have q202 : x4_1 < (l0.length : Int) := of_decide_eq_true za
    obtain ⟨ad202, A202_0, c202_0, e202, hx202_0, hl202_0, hi202_0⟩ := at_L2 (Kd.V_reads' HO_0.out).2.2 x4_1 p202 q202
    obtain rfl : ad201 = ad202 := (by injection e202)
    obtain ⟨ce202, hce202, hMe202, hcc202⟩ := Kd.V_get HO_0.out [] x4_1 p202 (by first | exact q202 | exact of_decide_eq_true za | (have e_ := (Kd.V_reads' HO_0.out).1; omega))
    obtain ⟨ua202_0, uc202_0, rfl, ul202_0, ge202_0⟩ := Kd.FK_slice_open hMe202
    have hv202_0 := hcc202 0 _ rfl
    rw [Nat.add_zero, show ((Kd.slice 43 k43)).sz = 1 from rfl, Nat.mul_one] at hv202_0
    replace hv202_0 := Option.some.inj (hv202_0.symm.trans hx202_0)
    injection hv202_0 with hva_ hvn_ hvc_
    rw [hva_] at ge202_0
    rw [hvc_] at ul202_0
    have HL202_0 := aM (show Kd.V k43 43 _ w.heap.size _ _ (rd_L2 l0 x4_1) from Kd.V_mk ul202_0 ge202_0)
    clear hva_ hvn_ hvc_ ge202_0 ul202_0
    clear hcc202 hce202
    have HR202_0 := aM hi202_0
    have HC202_0 := aM hl202_0
    clear hi202_0 hl202_0
    replace p202 := eq_true p202
    replace q202 := eq_true q202
    obtain ⟨Ao7, co7, eo7⟩ := Kd.V_slice HO_3.out
    subst eo7
    go_wp2_with (first | ((with_reducible refine gate_callee (f := 25) rfl ?_); refine goesL_ (some 19) rfl rfl Try.func25 (by kernel_rfl) rfl #[.slice A202_0 (rd_L2 l0 x4_1).length c202_0, .slice Ao7 x3_1.length co7] rfl zm ?_; (with_reducible refine (spec_CompareShapes.calls k1 _ _ (rd_L2 l0 x4_1) _ _ x3_1 t203 _ ?side1 ?side2 ?side3 ?side4 A5.out).mono ?_); (case side1 => repeat (first | exact (mQ_ HR202_0.out) | (with_reducible refine Kd.C_alloc ?_ _) | (with_reducible refine Kd.C_drewN ?_ _) | (with_reducible refine Kd.C_drew ?_))); (case side2 => exact HC202_0.out); (case side3 => repeat (first | exact (Kd.V_reads' HO_3.out).2.2 | (with_reducible refine Kd.C_alloc ?_ _) | (with_reducible refine Kd.C_drewN ?_ _) | (with_reducible refine Kd.C_drew ?_))); (case side4 => exact (Kd.V_reads' HO_3.out).2.1); rintro e w8 ⟨rfl, hb⟩; refine ⟨_, rfl, ?_⟩; have n0_ := aM (Kd.V_below (mV_ HO_0.out) hb); have n1_ := aM (Kd.V_below (mV_ HO_3.out) hb); have n2_ := aM (Kd.V_below (mV_ HL202_0.out) hb); have n3_ := aM (Kd.C_below (mQ_ HR201_0.out) hb); have n4_ := aM (Kd.C_below (mQ_ HR202_0.out) hb); have n5_ := aM (below_step zb hb); clear HO_0 HO_3 HL202_0 HR201_0 HR202_0 HB; have HO_0 := n0_; have HO_3 := n1_; have HL202_0 := n2_; have HR201_0 := n3_; have HR202_0 := n4_; have HB := n5_; clear n0_ n1_ n2_ n3_ n4_ n5_; (try clear hb); (try clear hb2); (try clear hk); (try clear hi); have p204 : 0 ≤ (x4_1 : Int) := of_decide_eq_true za; have q204 : x4_1 < (l0.length : Int) := of_decide_eq_true za; obtain ⟨ad204, A204_0, c204_0, e204, hx204_0, hl204_0, hi204_0⟩ := at_L2 (Kd.V_reads' HO_0.out).2.2 x4_1 p204 q204; obtain rfl : ad201 = ad204 := (by injection e204); obtain ⟨ce204, hce204, hMe204, hcc204⟩ := Kd.V_get HO_0.out [] x4_1 p204 (by first | exact q204 | exact of_decide_eq_true za | (have e_ := (Kd.V_reads' HO_0.out).1; omega)); obtain ⟨ua204_0, uc204_0, rfl, ul204_0, ge204_0⟩ := Kd.FK_slice_open hMe204; have hv204_0 := hcc204 0 _ rfl; rw [Nat.add_zero, show ((Kd.slice 43 k43)).sz = 1 from rfl, Nat.mul_one] at hv204_0; replace hv204_0 := Option.some.inj (hv204_0.symm.trans hx204_0); injection hv204_0 with hva_ hvn_ hvc_; rw [hva_] at ge204_0; rw [hvc_] at ul204_0; have HL204_0 := aM (show Kd.V k43 43 _ w.heap.size _ _ (rd_L2 l0 x4_1) from Kd.V_mk ul204_0 ge204_0); clear hva_ hvn_ hvc_ ge204_0 ul204_0 hcc204 hce204; have HR204_0 := aM hi204_0; have HC204_0 := aM hl204_0; clear hi204_0 hl204_0; replace p204 := eq_true p204; replace q204 := eq_true q204))
    go_roundg k1
    case measure => have := HK1.out; omega
    case rel => exact ⟨(rd_L2 l0 x4_1), (wrap64 (x4_1 + 1)), zr, H', ⟨by have := HK1.out; omega⟩, ⟨mV_ HO_0.out⟩, ⟨mV_ HL204_0.out⟩, ⟨mQ_ HR201_0.out⟩, ⟨zb⟩⟩
   rw [if_neg c6] at H
   have c6b0 : decide (t203 < 0) = false := decide_eq_false c6
   clear c6
   have H' := aM H
   clear H
   have p202 : 0 ≤ (x4_1 : Int) := of_decide_eq_true za
   have q202 : x4_1 < (l0.length : Int) := of_decide_eq_true za
   obtain ⟨ad202, A202_0, c202_0, e202, hx202_0, hl202_0, hi202_0⟩ := at_L2 (Kd.V_reads' HO_0.out).2.2 x4_1 p202 q202
   obtain rfl : ad201 = ad202 := (by injection e202)
   obtain ⟨ce202, hce202, hMe202, hcc202⟩ := Kd.V_get HO_0.out [] x4_1 p202 (by first | exact q202 | exact of_decide_eq_true za | (have e_ := (Kd.V_reads' HO_0.out).1; omega))
   obtain ⟨ua202_0, uc202_0, rfl, ul202_0, ge202_0⟩ := Kd.FK_slice_open hMe202
   have hv202_0 := hcc202 0 _ rfl
   rw [Nat.add_zero, show ((Kd.slice 43 k43)).sz = 1 from rfl, Nat.mul_one] at hv202_0
   replace hv202_0 := Option.some.inj (hv202_0.symm.trans hx202_0)
   injection hv202_0 with hva_ hvn_ hvc_
   rw [hva_] at ge202_0
   rw [hvc_] at ul202_0
   have HL202_0 := aM (show Kd.V k43 43 _ w.heap.size _ _ (rd_L2 l0 x4_1) from Kd.V_mk ul202_0 ge202_0)
   clear hva_ hvn_ hvc_ ge202_0 ul202_0
   clear hcc202 hce202
   have HR202_0 := aM hi202_0
   have HC202_0 := aM hl202_0
   clear hi202_0 hl202_0
   replace p202 := eq_true p202
   replace q202 := eq_true q202
   obtain ⟨Ao9, co9, eo9⟩ := Kd.V_slice HO_3.out
   subst eo9
   go_wp2_with (first | ((with_reducible refine gate_callee (f := 25) rfl ?_); refine goesL_ (some 19) rfl rfl Try.func25 (by kernel_rfl) rfl #[.slice A202_0 (rd_L2 l0 x4_1).length c202_0, .slice Ao9 x3_1.length co9] rfl zm ?_; (with_reducible refine (spec_CompareShapes.calls k1 _ _ (rd_L2 l0 x4_1) _ _ x3_1 t203 _ ?side1 ?side2 ?side3 ?side4 A5.out).mono ?_); (case side1 => repeat (first | exact (mQ_ HR202_0.out) | (with_reducible refine Kd.C_alloc ?_ _) | (with_reducible refine Kd.C_drewN ?_ _) | (with_reducible refine Kd.C_drew ?_))); (case side2 => exact HC202_0.out); (case side3 => repeat (first | exact (Kd.V_reads' HO_3.out).2.2 | (with_reducible refine Kd.C_alloc ?_ _) | (with_reducible refine Kd.C_drewN ?_ _) | (with_reducible refine Kd.C_drew ?_))); (case side4 => exact (Kd.V_reads' HO_3.out).2.1); rintro e w10 ⟨rfl, hb⟩; refine ⟨_, rfl, ?_⟩; have n0_ := aM (Kd.V_below (mV_ HO_0.out) hb); have n1_ := aM (Kd.V_below (mV_ HO_3.out) hb); have n2_ := aM (Kd.V_below (mV_ HL202_0.out) hb); have n3_ := aM (Kd.C_below (mQ_ HR201_0.out) hb); have n4_ := aM (Kd.C_below (mQ_ HR202_0.out) hb); have n5_ := aM (below_step zb hb); clear HO_0 HO_3 HL202_0 HR201_0 HR202_0 HB; have HO_0 := n0_; have HO_3 := n1_; have HL202_0 := n2_; have HR201_0 := n3_; have HR202_0 := n4_; have HB := n5_; clear n0_ n1_ n2_ n3_ n4_ n5_; (try clear hb); (try clear hb2); (try clear hk); (try clear hi)))
   go_roundg k1
   case measure => have := HK1.out; omega
   case rel => exact ⟨(x3_1), (wrap64 (x4_1 + 1)), zr, H', ⟨by have := HK1.out; omega⟩, ⟨mV_ HO_0.out⟩, ⟨mV_ HO_3.out⟩, ⟨mQ_ HR201_0.out⟩, ⟨zb⟩⟩
def spec_l07Free.l0 : Nat → Int → List (List (S43)) → List (List (S43)) → Int → Option ((List (List (S43))))
 | 0, _, _, _, _ => none
 | k + 1, x0, x1, x5, x6 => if x6 < (x1.length : Int) then (if 0 ≤ x6 then ((spec_l07Forms.f k x0 (rd_L2 x1 x6)).bind fun bt209 => ((spec_l07Least.f k bt209.1).bind fun t213 => ((spec_CompareShapes.f k t213 (rd_L2 x1 x6)).bind fun t217 => (if t217 = 0 then (if x5.length < 5864062014805 then (spec_l07Free.l0 k x0 x1 (x5 ++ [rd_L2 x1 x6]) (wrap64 (x6 + 1))) else (none)) else (spec_l07Free.l0 k x0 x1 x5 (wrap64 (x6 + 1))))))) else (none)) else (some x5)
def spec_l07Free.f (k : Nat) (a0 : Int) (l1 : List (List (S43))) : Option ((List (List (S43)))) := spec_l07Free.l0 k a0 l1 (([] : List (List (S43)))) 0
def spec_l07Free.T6 : Bool × List (List Nat × List Nat) := (true, [([], []), ([0], [0]), ([], []), ([], []), ([2, 3], [2, 3]), ([4], [4]), ([1, 5, 1], [1, 5]), ([6], [6])])
def spec_l07Free.B6 : List Nat := [0, 1, 0, 0, 12, 28, 63, 127]
theorem spec_l07Free.tab6 : rtab .any (opsOf Try.f13 6) = spec_l07Free.T6 := by kernel_rfl
theorem spec_l07Free.bits6 : waitsOk spec_l07Free.T6.2 spec_l07Free.B6 = true := by kernel_rfl
theorem spec_l07Free.calls (k : Nat) (a0 : Int) (P1_ : Nat → Prop) (A1 : Option Addr) (c1 : Nat) (l1 : List (List (S43))) (r : List (List (S43))) (w : World) (hs1 : Kd.V (Kd.slice 43 k43) 36 w w.heap.size (fun k_ => P1_ k_) (.slice A1 l1.length c1) l1) (h : spec_l07Free.f k a0 l1 = some r) :
  Calls Try.prog 13 #[.int .i64 a0, .slice A1 l1.length c1] w fun e w' => ∃ v0_ : Value, e = .returned (v0_) ∧ Kd.N (Kd.slice 43 k43) 36 w' w.heap.size (fun k_ => (P1_ k_ ∨ w.heap.size ≤ k_)) v0_ r ∧ Below w.heap.size w w' := by
 have HO1 := aM (show Kd.V (Kd.slice 43 k43) 36 w w.heap.size (fun k_ => (P1_ k_ ∨ w.heap.size ≤ k_)) (.slice A1 l1.length c1) l1 from Kd.V_mono hs1 (fun k_ hk => .inl hk))
 have HB := aM (Below.refl w.heap.size w)
 have H : (spec_l07Free.l0 k a0 l1 (([] : List (List (S43)))) 0) = some r := h
 clear h
 obtain ⟨y205, hy205⟩ : ∃ y_ : List (List (S43)), y_ = (([] : List (List (S43)))) := ⟨_, rfl⟩
 replace H : (spec_l07Free.l0 k a0 l1 y205 0) = some r := zy H hy205
 have Ny205 := aM hy205
 clear hy205
 have H' := aM H
 clear H
 go_enter Try.func13, Try.ntmps13
 go_wp2_with (first | ((with_reducible refine gate_dst (N := 9) rfl ?_); refine Kd.N_lit (Kd.slice 43 k43) _ 36 ?hg (N' := 9) ?hd (xs := ([] : List (List (S43)))) (inner := []) (ok := (fun k_ => (P1_ k_ ∨ w.heap.size ≤ k_))) (okp := (fun k_ => (P1_ k_ ∨ w.heap.size ≤ k_))) ?hr ?hp (fun _ hk => hk) ((show ∀ k_, w.heap.size ≤ k_ → (fun k_ => (P1_ k_ ∨ w.heap.size ≤ k_)) k_ from fun k_ hk => (.inr (Nat.le_trans (below_size zb) hk))) _ (Nat.le_refl _)) (Below.refl _ _) (Nat.le_refl _) (by simp) ?_; (case hd => rfl); (case hg => rfl); (case hr => first | (go_simp; done) | (go_simp; rfl)); (case hp => exact (Reps.none _ _)); intro v206 w3 ho4 hb hg_ hnew_; clear hg_ hnew_; (first | rw [← Ny205.out] at ho4 | (simp only [Int.reduceToNat] at ho4; rw [← Ny205.out] at ho4)); have n0_ := aM (Kd.V_elder' (mV_ HO1.out) (by first | exact Kd.N_base ho4 | exact Kd.S_base ho4 | exact Kd.R_base ho4) hb); have n1_ := aM (Kd.N_lower ho4 (below_size zb)); have n2_ := aM (below_step zb hb); clear HO1 HB; have HO1 := n0_; have HO207 := n1_; have HB := n2_; clear n0_ n1_ n2_; clear hb ho4))
 go_loopg [5, 6] k (fun kq v5 v6 w' => ∃ (x5_1 : List (List (S43))) (x6_1 : Int), v6 = .int .i64 x6_1 ∧ Aside0 (spec_l07Free.l0 kq a0 l1 x5_1 x6_1 = some r) ∧ Aside0 (kq ≤ k) ∧ Aside0 (Kd.V (Kd.slice 43 k43) 36 w' w.heap.size (fun k_ => (P1_ k_ ∨ w.heap.size ≤ k_) ∧ some k_ ≠ (v5 : Value).ownBlock) (.slice A1 l1.length c1) l1) ∧ Aside0 (Kd.N (Kd.slice 43 k43) 36 w' w.heap.size (fun k_ => (P1_ k_ ∨ w.heap.size ≤ k_)) v5 x5_1) ∧ Aside0 (Below w.heap.size w w'))
 case atStart => exact ⟨(y205), (0), zr, H', ⟨Nat.le_refl _⟩, ⟨mV_ HO1.out⟩, ⟨mN_ HO207.out⟩, ⟨zb⟩⟩
 case round =>
  clear H'
  try clear c1
  try clear p2
  obtain ⟨x5_1, x6_1, rfl, HA, HK1, HO_1, HO_5, HB⟩ := hrel
  cases gk with
  | zero => exact absurd HA.out (by simp [spec_l07Free.l0])
  | succ k1 =>
   have H := HA.out
   clear HA
   simp only [spec_l07Free.l0] at H
   by_cases c5 : x6_1 < (l1.length : Int)
   rotate_left
   ·rw [if_neg c5] at H
    have c5b0 : decide (x6_1 < (l1.length : Int)) = false := decide_eq_false c5
    clear c5
    obtain rfl := Option.some.inj H
    go_wp2
    go_ret
    exact ⟨_, zw, mN_ HO_5.out, zb⟩
   rw [if_pos c5] at H
   have c5b0 : decide (x6_1 < (l1.length : Int)) = true := decide_eq_true c5
   clear c5
   by_cases c6 : 0 ≤ x6_1
   rotate_left
   ·rw [if_neg c6] at H
    exact absurd H (by simp)
   rw [if_pos c6] at H
   have c6b0 : decide (0 ≤ x6_1) = true := decide_eq_true c6
   clear c6
   replace H := Option.bind_eq_some_iff.mp H
   obtain ⟨⟨t209, t210⟩, A70, H⟩ := H
   replace H : ((spec_l07Least.f k1 t209).bind fun t213 => ((spec_CompareShapes.f k1 t213 (rd_L2 l1 x6_1)).bind fun t217 => (if t217 = 0 then (if x5_1.length < 5864062014805 then (spec_l07Free.l0 k1 a0 l1 (x5_1 ++ [rd_L2 l1 x6_1]) (wrap64 (x6_1 + 1))) else (none)) else (spec_l07Free.l0 k1 a0 l1 x5_1 (wrap64 (x6_1 + 1)))))) = some r := H
   have A7 := aM A70
   clear A70
   replace H := Option.bind_eq_some_iff.mp H
   obtain ⟨t213, A80, H⟩ := H
   replace H : ((spec_CompareShapes.f k1 t213 (rd_L2 l1 x6_1)).bind fun t217 => (if t217 = 0 then (if x5_1.length < 5864062014805 then (spec_l07Free.l0 k1 a0 l1 (x5_1 ++ [rd_L2 l1 x6_1]) (wrap64 (x6_1 + 1))) else (none)) else (spec_l07Free.l0 k1 a0 l1 x5_1 (wrap64 (x6_1 + 1))))) = some r := H
   have A8 := aM A80
   clear A80
   replace H := Option.bind_eq_some_iff.mp H
   obtain ⟨t217, A90, H⟩ := H
   replace H : (if t217 = 0 then (if x5_1.length < 5864062014805 then (spec_l07Free.l0 k1 a0 l1 (x5_1 ++ [rd_L2 l1 x6_1]) (wrap64 (x6_1 + 1))) else (none)) else (spec_l07Free.l0 k1 a0 l1 x5_1 (wrap64 (x6_1 + 1)))) = some r := H
   have A9 := aM A90
   clear A90
   by_cases c10 : t217 = 0
   rotate_left
   ·rw [if_neg c10] at H
    have c10b0 : (t217 == 0) = false := beq_eq_false_iff_ne.mpr c10
    have c10b1 : (t217 != 0) = true := bne_iff_ne.mpr c10
    have H' := aM H
    clear H
    have p208 : 0 ≤ (x6_1 : Int) := of_decide_eq_true za
    have q208 : x6_1 < (l1.length : Int) := of_decide_eq_true za
    obtain ⟨ad208, A208_0, c208_0, e208, hx208_0, hl208_0, hi208_0⟩ := at_L2 (Kd.V_reads' HO_1.out).2.2 x6_1 p208 q208
    cases e208
    obtain ⟨ce208, hce208, hMe208, hcc208⟩ := Kd.V_get HO_1.out [] x6_1 p208 (by first | exact q208 | exact of_decide_eq_true za | (have e_ := (Kd.V_reads' HO_1.out).1; omega))
    obtain ⟨ua208_0, uc208_0, rfl, ul208_0, ge208_0⟩ := Kd.FK_slice_open hMe208
    have hv208_0 := hcc208 0 _ rfl
    rw [Nat.add_zero, show ((Kd.slice 43 k43)).sz = 1 from rfl, Nat.mul_one] at hv208_0
    replace hv208_0 := Option.some.inj (hv208_0.symm.trans hx208_0)
    injection hv208_0 with hva_ hvn_ hvc_
    rw [hva_] at ge208_0
    rw [hvc_] at ul208_0
    have HL208_0 := aM (show Kd.V k43 43 _ w.heap.size _ _ (rd_L2 l1 x6_1) from Kd.V_mk ul208_0 ge208_0)
    clear hva_ hvn_ hvc_ ge208_0 ul208_0
    clear hcc208 hce208
    have HR208_0 := aM hi208_0
    have HC208_0 := aM hl208_0
    clear hi208_0 hl208_0
    replace p208 := eq_true p208
    replace q208 := eq_true q208
    try go_wp2_with (first | ((with_reducible refine gate_callee (f := 24) rfl ?_); refine goesL_ (some 22) rfl rfl Try.func24 (by kernel_rfl) rfl #[.int .i64 a0, .slice A208_0 (rd_L2 l1 x6_1).length c208_0] rfl zm ?_; (with_reducible refine (spec_l07Forms.calls k1 a0 _ _ (rd_L2 l1 x6_1) t209 t210 _ ?side1 ?side2 A7.out).mono ?_); (case side1 => repeat (first | exact (mQ_ HR208_0.out) | (with_reducible refine Kd.C_alloc ?_ _) | (with_reducible refine Kd.C_drewN ?_ _) | (with_reducible refine Kd.C_drew ?_))); (case side2 => exact HC208_0.out); rintro e w19 ⟨v211, rfl, ho0, hb⟩; refine ⟨_, rfl, ?_⟩; have n0_ := aM (Kd.V_elder' (mV_ HO_1.out) (by first | exact Kd.N_base ho0 | exact Kd.S_base ho0 | exact Kd.R_base ho0) hb); have n1_ := aM (Kd.N_elder' (mN_ HO_5.out) (by first | exact Kd.N_base ho0 | exact Kd.S_base ho0 | exact Kd.R_base ho0) hb); have n2_ := aM (Kd.V_elder' (mV_ HL208_0.out) (by first | exact Kd.N_base ho0 | exact Kd.S_base ho0 | exact Kd.R_base ho0) hb); have n3_ := aM (Kd.N_lower (Kd.N_mono (ok' := fun k_ => (P1_ k_ ∨ w.heap.size ≤ k_) ∧ some k_ ≠ (u5 : Value).ownBlock) (Kd.S_N (Kd.S_bound ho0)) (fun k_ hk_ => ⟨(.inr (Nat.le_trans (below_size zb) hk_.2.1)), (Kd.fresh' (Kd.N_lt (mN_ HO_5.out)) k_ hk_.2.1)⟩)) (below_size zb)); have n4_ := aM (Kd.C_below (mQ_ HR208_0.out) hb); have n5_ := aM (below_step zb hb); clear HO_1 HO_5 HL208_0 HR208_0 HB; have HO_1 := n0_; have HO_5 := n1_; have HL208_0 := n2_; have HO212 := n3_; have HR208_0 := n4_; have HB := n5_; clear n0_ n1_ n2_ n3_ n4_ n5_; (try clear hb); (try clear hb2); (try clear hk); (try clear hi); (try clear ho0)))
    have n0_ := aM (Kd.V_drew HO_1.out)
    have n1_ := aM (Kd.N_drew HO_5.out)
    have n2_ := aM (Kd.V_drew HL208_0.out)
    have n3_ := aM (Kd.N_drew HO212.out)
    have n4_ := aM (Kd.C_drew HR208_0.out)
    have n5_ := aM (below_drew1 HB.out)
    clear HO_1
    clear HO_5
    clear HL208_0
    clear HO212
    clear HR208_0
    clear HB
    have HO_1 := n0_
    have HO_5 := n1_
    have HL208_0 := n2_
    have HO212 := n3_
    have HR208_0 := n4_
    have HB := n5_
    clear n0_ n1_ n2_ n3_ n4_ n5_
    have p216 : 0 ≤ (x6_1 : Int) := of_decide_eq_true za
    have q216 : x6_1 < (l1.length : Int) := of_decide_eq_true za
    obtain ⟨ad216, A216_0, c216_0, e216, hx216_0, hl216_0, hi216_0⟩ := at_L2 (Kd.V_reads' HO_1.out).2.2 x6_1 p216 q216
    obtain rfl : ad208 = ad216 := (by injection e216)
    obtain ⟨ce216, hce216, hMe216, hcc216⟩ := Kd.V_get HO_1.out [] x6_1 p216 (by first | exact q216 | exact of_decide_eq_true za | (have e_ := (Kd.V_reads' HO_1.out).1; omega))
    obtain ⟨ua216_0, uc216_0, rfl, ul216_0, ge216_0⟩ := Kd.FK_slice_open hMe216
    have hv216_0 := hcc216 0 _ rfl
    rw [Nat.add_zero, show ((Kd.slice 43 k43)).sz = 1 from rfl, Nat.mul_one] at hv216_0
    replace hv216_0 := Option.some.inj (hv216_0.symm.trans hx216_0)
    injection hv216_0 with hva_ hvn_ hvc_
    rw [hva_] at ge216_0
    rw [hvc_] at ul216_0
    have HL216_0 := aM (show Kd.V k43 43 _ w.heap.size _ _ (rd_L2 l1 x6_1) from Kd.V_mk ul216_0 ge216_0)
    clear hva_ hvn_ hvc_ ge216_0 ul216_0
    clear hcc216 hce216
    have HR216_0 := aM hi216_0
    have HC216_0 := aM hl216_0
    clear hi216_0 hl216_0
    replace p216 := eq_true p216
    replace q216 := eq_true q216
    obtain ⟨Ao21, co21, eo21⟩ := Kd.N_slice HO212.out
    (first | subst eo21 | (injection eo21 with f1_ f2_ f3_; have f4_ := f1_.symm; have f5_ := f3_.symm; clear f1_ f2_ f3_; subst f4_; subst f5_))
    refine start_ (n := 8) (S := fun w' => w'.cell? (ad208.add (x6_1).toNat) = some (.slice A216_0 (rd_L2 l1 x6_1).length c216_0)) (ds := []) #[false, false, false, false, false, false, false, false] (by kernel_rfl) rfl rfl (hx216_0) (fun hHeld => ?_); refine with_tabW spec_l07Free.tab6 spec_l07Free.bits6 (fun HT_ HW_ => ?_)
    generalize w19.drew = w20 at HO_1 HO_5 HL208_0 HO212 HR208_0 HB HL216_0 HR216_0 hx216_0 hHeld ⊢
    refine zp 0 (some 25) ?_ #[true, false, false, false, false, false, false, false] rfl rfl (Or.inl ⟨by rfl, ?_⟩) ?_ ?_ ?_
    rotate_left
    ·intro w'
     go_simp
     with_reducible rfl
    rotate_left
    ·simp only [Act.put, xA, xB, xC, i64_w, i32_w]
     rfl
    refine zp 2 (some 27) ?_ #[true, false, true, false, false, false, false, false] rfl rfl (Or.inl ⟨by rfl, ?_⟩) ?_ ?_ ?_
    rotate_left
    ·intro w'
     go_simp
     with_reducible rfl
    rotate_left
    ·simp only [Act.put, xA, xB, xC, i64_w, i32_w]
     rfl
    refine zp 3 (some 28) ?_ #[true, false, true, true, false, false, false, false] rfl rfl (Or.inl ⟨by rfl, ?_⟩) ?_ ?_ ?_
    rotate_left
    ·intro w'
     go_simp
     with_reducible rfl
    rotate_left
    ·simp only [Act.put, xA, xB, xC, i64_w, i32_w]
     rfl
    refine zp 4 (some 29) ?_ #[true, false, true, true, true, false, false, false] rfl rfl (Or.inl ⟨by rfl, ?_⟩) ?_ ?_ ?_
    rotate_left
    ·intro w'
     go_simp
     with_reducible rfl
    rotate_left
    ·simp only [Act.put, xA, xB, xC, i64_w, i32_w]
     rfl
    refine zu 5 (some 30) ?_ #[true, false, true, true, true, true, false, false] rfl rfl (Or.inl ⟨by rfl, ?_⟩) hHeld ?_ ?_ ?_
    rotate_left
    ·intro w' s0
     go_simp
     with_reducible rfl
    rotate_left
    ·simp only [Act.put, xA, xB, xC, i64_w, i32_w]
     rfl
    refine one_ (i := 1) (N := some 26) #[true, true, true, true, true, true, false, false] rfl rfl (one_of HT_.out (by kernel_rfl)) (by decide) (fun K hK => ?_)
    refine goes_ Try.func26 (by kernel_rfl) rfl #[.slice Ao21 t209.length co21] (by rfl) rfl rfl zm ?_
    with_reducible refine (spec_l07Least.calls k1 (fun k_ => ((P1_ k_ ∨ w.heap.size ≤ k_) ∧ some k_ ≠ (u5 : Value).ownBlock)) _ _ t209 t213 _ ?side1 A8.out).mono ?_
    (case side1 => exact Kd.N_V (HO212.out))
    rintro e w22 ⟨v214, rfl, ho0, hb⟩
    have HS0_ := zk hb (hHeld)
    refine ⟨_, rfl, ?_⟩
    have n0_ := aM (Kd.V_below (mV_ HO_1.out) hb)
    have n1_ := aM (Kd.N_below (mN_ HO_5.out) hb)
    have n2_ := aM (Kd.V_below (mV_ HL208_0.out) hb)
    have n3_ := aM (Kd.N_below (mN_ HO212.out) hb)
    have n4_ := aM (Kd.V_below (mV_ HL216_0.out) hb)
    have n5_ := aM (Kd.V_lower (Kd.V_mono (ok' := fun k_ => (P1_ k_ ∨ w.heap.size ≤ k_) ∧ some k_ ≠ (u5 : Value).ownBlock) ho0 (fun k_ hk_ => ⟨Or.elim hk_ (fun hs_ => hs_.1) (fun hn_ => (.inr (Nat.le_trans (below_size zb) hn_))), Or.elim hk_ (fun hs_ => hs_.2) (fun hn_ => (Kd.fresh' (Kd.N_lt (mN_ HO_5.out)) k_ hn_))⟩)) (below_size zb))
    have n6_ := aM (Kd.C_below (mQ_ HR208_0.out) hb)
    have n7_ := aM (Kd.C_below (mQ_ HR216_0.out) hb)
    have n8_ := aM (below_step zb hb)
    clear HO_1
    clear HO_5
    clear HL208_0
    clear HO212
    clear HL216_0
    clear HR208_0
    clear HR216_0
    clear HB
    have HO_1 := n0_
    have HO_5 := n1_
    have HL208_0 := n2_
    have HO212 := n3_
    have HL216_0 := n4_
    have HO215 := n5_
    have HR208_0 := n6_
    have HR216_0 := n7_
    have HB := n8_
    clear n0_ n1_ n2_ n3_ n4_ n5_ n6_ n7_ n8_
    (try clear hb)
    (try clear hb2)
    (try clear hk)
    (try clear hi)
    (try clear ho0)
    obtain ⟨Ao23, co23, eo23⟩ := Kd.V_slice HO215.out
    (first | subst eo23 | (injection eo23 with f1_ f2_ f3_; have f4_ := f1_.symm; have f5_ := f3_.symm; clear f1_ f2_ f3_; subst f4_; subst f5_))
    refine hK.out _ _ (HS0_) (fun hHeld => ?_)
    clear hK K
    refine norm_ (a' := ?_) ?_ ?_
    rotate_left
    ·show Act.put _ (some 26) _ = _
     simp only [Act.put, xA, xB, xC, i64_w, i32_w]
     rfl
    refine one_ (i := 6) (N := some 31) #[true, true, true, true, true, true, true, false] rfl rfl (one_of HT_.out (by kernel_rfl)) (by decide) (fun K hK => ?_)
    refine goes_ Try.func25 (by kernel_rfl) rfl #[.slice Ao23 t213.length co23, .slice A216_0 (rd_L2 l1 x6_1).length c216_0] (by rfl) rfl rfl zm ?_
    with_reducible refine (spec_CompareShapes.calls k1 _ _ t213 _ _ (rd_L2 l1 x6_1) t217 _ ?side1 ?side2 ?side3 ?side4 A9.out).mono ?_
    (case side1 => repeat (first | exact (Kd.V_reads' HO215.out).2.2 | (with_reducible refine Kd.C_alloc ?_ _) | (with_reducible refine Kd.C_drewN ?_ _) | (with_reducible refine Kd.C_drew ?_)))
    (case side2 => exact (Kd.V_reads' HO215.out).2.1)
    (case side3 => repeat (first | exact (mQ_ HR216_0.out) | (with_reducible refine Kd.C_alloc ?_ _) | (with_reducible refine Kd.C_drewN ?_ _) | (with_reducible refine Kd.C_drew ?_)))
    (case side4 => exact HC216_0.out)
    rintro e w24 ⟨rfl, hb⟩
    have HS0_ := zk hb (hHeld)
    refine ⟨_, rfl, ?_⟩
    have n0_ := aM (Kd.V_below (mV_ HO_1.out) hb)
    have n1_ := aM (Kd.N_below (mN_ HO_5.out) hb)
    have n2_ := aM (Kd.V_below (mV_ HL208_0.out) hb)
    have n3_ := aM (Kd.N_below (mN_ HO212.out) hb)
    have n4_ := aM (Kd.V_below (mV_ HL216_0.out) hb)
    have n5_ := aM (Kd.V_below (mV_ HO215.out) hb)
    have n6_ := aM (Kd.C_below (mQ_ HR208_0.out) hb)
    have n7_ := aM (Kd.C_below (mQ_ HR216_0.out) hb)
    have n8_ := aM (below_step zb hb)
    clear HO_1
    clear HO_5
    clear HL208_0
    clear HO212
    clear HL216_0
    clear HO215
    clear HR208_0
    clear HR216_0
    clear HB
    have HO_1 := n0_
    have HO_5 := n1_
    have HL208_0 := n2_
    have HO212 := n3_
    have HL216_0 := n4_
    have HO215 := n5_
    have HR208_0 := n6_
    have HR216_0 := n7_
    have HB := n8_
    clear n0_ n1_ n2_ n3_ n4_ n5_ n6_ n7_ n8_
    (try clear hb)
    (try clear hb2)
    (try clear hk)
    (try clear hi)
    refine hK.out _ _ (HS0_) (fun hHeld => ?_)
    clear hK K
    refine norm_ (a' := ?_) ?_ ?_
    rotate_left
    ·show Act.put _ (some 31) _ = _
     simp only [Act.put, xA, xB, xC, i64_w, i32_w]
     rfl
    refine zp 7 (some 32) ?_ #[true, true, true, true, true, true, true, true] rfl rfl (Or.inl ⟨by rfl, ?_⟩) ?_ ?_ ?_
    rotate_left
    ·intro w'
     go_simp
     with_reducible rfl
    rotate_left
    ·simp only [Act.put, xA, xB, xC, i64_w, i32_w]
     rfl
    refine done_ (done_of HT_.out (by kernel_rfl)) ?_; (try clear HS0_); (try clear hHeld)
    try go_wp2
    go_roundg k1
    case measure => have := HK1.out; omega
    case rel => exact ⟨(x5_1), (wrap64 (x6_1 + 1)), zr, H', ⟨by have := HK1.out; omega⟩, ⟨zd2 HO_1.out⟩, ⟨zd5 HO_5.out⟩, ⟨zb⟩⟩
   rw [if_pos c10] at H
   have c10b0 : (t217 == 0) = true := beq_iff_eq.mpr c10
   have c10b1 : (t217 != 0) = false := bne_eq_false_iff_eq.mpr c10
   clear c10
   by_cases c11 : x5_1.length < 5864062014805
   rotate_left
   ·rw [if_neg c11] at H
    exact absurd H (by simp)
   rw [if_pos c11] at H
   have LMc11 := aM c11
   clear c11
   obtain ⟨y219, hy219⟩ : ∃ y_ : List (List (S43)), y_ = (x5_1 ++ [rd_L2 l1 x6_1]) := ⟨_, rfl⟩
   replace H : (spec_l07Free.l0 k1 a0 l1 y219 (wrap64 (x6_1 + 1))) = some r := zy H hy219
   have Ny219 := aM hy219
   clear hy219
   have H' := aM H
   clear H
   have p208 : 0 ≤ (x6_1 : Int) := of_decide_eq_true za
   have q208 : x6_1 < (l1.length : Int) := of_decide_eq_true za
   obtain ⟨ad208, A208_0, c208_0, e208, hx208_0, hl208_0, hi208_0⟩ := at_L2 (Kd.V_reads' HO_1.out).2.2 x6_1 p208 q208
   cases e208
   obtain ⟨ce208, hce208, hMe208, hcc208⟩ := Kd.V_get HO_1.out [] x6_1 p208 (by first | exact q208 | exact of_decide_eq_true za | (have e_ := (Kd.V_reads' HO_1.out).1; omega))
   obtain ⟨ua208_0, uc208_0, rfl, ul208_0, ge208_0⟩ := Kd.FK_slice_open hMe208
   have hv208_0 := hcc208 0 _ rfl
   rw [Nat.add_zero, show ((Kd.slice 43 k43)).sz = 1 from rfl, Nat.mul_one] at hv208_0
   replace hv208_0 := Option.some.inj (hv208_0.symm.trans hx208_0)
   injection hv208_0 with hva_ hvn_ hvc_
   rw [hva_] at ge208_0
   rw [hvc_] at ul208_0
   have HL208_0 := aM (show Kd.V k43 43 _ w.heap.size _ _ (rd_L2 l1 x6_1) from Kd.V_mk ul208_0 ge208_0)
   clear hva_ hvn_ hvc_ ge208_0 ul208_0
   clear hcc208 hce208
   have HR208_0 := aM hi208_0
   have HC208_0 := aM hl208_0
   clear hi208_0 hl208_0
   replace p208 := eq_true p208
   replace q208 := eq_true q208
   try go_wp2_with (first | ((with_reducible refine gate_callee (f := 24) rfl ?_); refine goesL_ (some 22) rfl rfl Try.func24 (by kernel_rfl) rfl #[.int .i64 a0, .slice A208_0 (rd_L2 l1 x6_1).length c208_0] rfl zm ?_; (with_reducible refine (spec_l07Forms.calls k1 a0 _ _ (rd_L2 l1 x6_1) t209 t210 _ ?side1 ?side2 A7.out).mono ?_); (case side1 => repeat (first | exact (mQ_ HR208_0.out) | (with_reducible refine Kd.C_alloc ?_ _) | (with_reducible refine Kd.C_drewN ?_ _) | (with_reducible refine Kd.C_drew ?_))); (case side2 => exact HC208_0.out); rintro e w12 ⟨v211, rfl, ho0, hb⟩; refine ⟨_, rfl, ?_⟩; have n0_ := aM (Kd.V_elder' (mV_ HO_1.out) (by first | exact Kd.N_base ho0 | exact Kd.S_base ho0 | exact Kd.R_base ho0) hb); have n1_ := aM (Kd.N_elder' (mN_ HO_5.out) (by first | exact Kd.N_base ho0 | exact Kd.S_base ho0 | exact Kd.R_base ho0) hb); have n2_ := aM (Kd.V_elder' (mV_ HL208_0.out) (by first | exact Kd.N_base ho0 | exact Kd.S_base ho0 | exact Kd.R_base ho0) hb); have n3_ := aM (Kd.N_lower (Kd.N_mono (ok' := fun k_ => (P1_ k_ ∨ w.heap.size ≤ k_) ∧ some k_ ≠ (u5 : Value).ownBlock) (Kd.S_N (Kd.S_bound ho0)) (fun k_ hk_ => ⟨(.inr (Nat.le_trans (below_size zb) hk_.2.1)), (Kd.fresh' (Kd.N_lt (mN_ HO_5.out)) k_ hk_.2.1)⟩)) (below_size zb)); have n4_ := aM (Kd.C_below (mQ_ HR208_0.out) hb); have n5_ := aM (below_step zb hb); clear HO_1 HO_5 HL208_0 HR208_0 HB; have HO_1 := n0_; have HO_5 := n1_; have HL208_0 := n2_; have HO212 := n3_; have HR208_0 := n4_; have HB := n5_; clear n0_ n1_ n2_ n3_ n4_ n5_; (try clear hb); (try clear hb2); (try clear hk); (try clear hi); (try clear ho0)))
   have n0_ := aM (Kd.V_drew HO_1.out)
   have n1_ := aM (Kd.N_drew HO_5.out)
   have n2_ := aM (Kd.V_drew HL208_0.out)
   have n3_ := aM (Kd.N_drew HO212.out)
   have n4_ := aM (Kd.C_drew HR208_0.out)
   have n5_ := aM (below_drew1 HB.out)
   clear HO_1
   clear HO_5
   clear HL208_0
   clear HO212
   clear HR208_0
   clear HB
   have HO_1 := n0_
   have HO_5 := n1_
   have HL208_0 := n2_
   have HO212 := n3_
   have HR208_0 := n4_
   have HB := n5_
   clear n0_ n1_ n2_ n3_ n4_ n5_
   have p216 : 0 ≤ (x6_1 : Int) := of_decide_eq_true za
   have q216 : x6_1 < (l1.length : Int) := of_decide_eq_true za
   obtain ⟨ad216, A216_0, c216_0, e216, hx216_0, hl216_0, hi216_0⟩ := at_L2 (Kd.V_reads' HO_1.out).2.2 x6_1 p216 q216
   obtain rfl : ad208 = ad216 := (by injection e216)
   obtain ⟨ce216, hce216, hMe216, hcc216⟩ := Kd.V_get HO_1.out [] x6_1 p216 (by first | exact q216 | exact of_decide_eq_true za | (have e_ := (Kd.V_reads' HO_1.out).1; omega))
   obtain ⟨ua216_0, uc216_0, rfl, ul216_0, ge216_0⟩ := Kd.FK_slice_open hMe216
   have hv216_0 := hcc216 0 _ rfl
   rw [Nat.add_zero, show ((Kd.slice 43 k43)).sz = 1 from rfl, Nat.mul_one] at hv216_0
   replace hv216_0 := Option.some.inj (hv216_0.symm.trans hx216_0)
   injection hv216_0 with hva_ hvn_ hvc_
   rw [hva_] at ge216_0
   rw [hvc_] at ul216_0
   have HL216_0 := aM (show Kd.V k43 43 _ w.heap.size _ _ (rd_L2 l1 x6_1) from Kd.V_mk ul216_0 ge216_0)
   clear hva_ hvn_ hvc_ ge216_0 ul216_0
   clear hcc216 hce216
   have HR216_0 := aM hi216_0
   have HC216_0 := aM hl216_0
   clear hi216_0 hl216_0
   replace p216 := eq_true p216
   replace q216 := eq_true q216
   obtain ⟨Ao14, co14, eo14⟩ := Kd.N_slice HO212.out
   (first | subst eo14 | (injection eo14 with f1_ f2_ f3_; have f4_ := f1_.symm; have f5_ := f3_.symm; clear f1_ f2_ f3_; subst f4_; subst f5_))
   refine start_ (n := 8) (S := fun w' => w'.cell? (ad208.add (x6_1).toNat) = some (.slice A216_0 (rd_L2 l1 x6_1).length c216_0)) (ds := []) #[false, false, false, false, false, false, false, false] (by kernel_rfl) rfl rfl (hx216_0) (fun hHeld => ?_); refine with_tabW spec_l07Free.tab6 spec_l07Free.bits6 (fun HT_ HW_ => ?_)
   generalize w12.drew = w13 at HO_1 HO_5 HL208_0 HO212 HR208_0 HB HL216_0 HR216_0 hx216_0 hHeld ⊢
   refine zp 0 (some 25) ?_ #[true, false, false, false, false, false, false, false] rfl rfl (Or.inl ⟨by rfl, ?_⟩) ?_ ?_ ?_
   rotate_left
   ·intro w'
    go_simp
    with_reducible rfl
   rotate_left
   ·simp only [Act.put, xA, xB, xC, i64_w, i32_w]
    rfl
   refine zp 2 (some 27) ?_ #[true, false, true, false, false, false, false, false] rfl rfl (Or.inl ⟨by rfl, ?_⟩) ?_ ?_ ?_
   rotate_left
   ·intro w'
    go_simp
    with_reducible rfl
   rotate_left
   ·simp only [Act.put, xA, xB, xC, i64_w, i32_w]
    rfl
   refine zp 3 (some 28) ?_ #[true, false, true, true, false, false, false, false] rfl rfl (Or.inl ⟨by rfl, ?_⟩) ?_ ?_ ?_
   rotate_left
   ·intro w'
    go_simp
    with_reducible rfl
   rotate_left
   ·simp only [Act.put, xA, xB, xC, i64_w, i32_w]
    rfl
   refine zp 4 (some 29) ?_ #[true, false, true, true, true, false, false, false] rfl rfl (Or.inl ⟨by rfl, ?_⟩) ?_ ?_ ?_
   rotate_left
   ·intro w'
    go_simp
    with_reducible rfl
   rotate_left
   ·simp only [Act.put, xA, xB, xC, i64_w, i32_w]
    rfl
   refine zu 5 (some 30) ?_ #[true, false, true, true, true, true, false, false] rfl rfl (Or.inl ⟨by rfl, ?_⟩) hHeld ?_ ?_ ?_
   rotate_left
   ·intro w' s0
    go_simp
    with_reducible rfl
   rotate_left
   ·simp only [Act.put, xA, xB, xC, i64_w, i32_w]
    rfl
   refine one_ (i := 1) (N := some 26) #[true, true, true, true, true, true, false, false] rfl rfl (one_of HT_.out (by kernel_rfl)) (by decide) (fun K hK => ?_)
   refine goes_ Try.func26 (by kernel_rfl) rfl #[.slice Ao14 t209.length co14] (by rfl) rfl rfl zm ?_
   with_reducible refine (spec_l07Least.calls k1 (fun k_ => ((P1_ k_ ∨ w.heap.size ≤ k_) ∧ some k_ ≠ (u5 : Value).ownBlock)) _ _ t209 t213 _ ?side1 A8.out).mono ?_
   (case side1 => exact Kd.N_V (HO212.out))
   rintro e w15 ⟨v214, rfl, ho0, hb⟩
   have HS0_ := zk hb (hHeld)
   refine ⟨_, rfl, ?_⟩
   have n0_ := aM (Kd.V_below (mV_ HO_1.out) hb)
   have n1_ := aM (Kd.N_below (mN_ HO_5.out) hb)
   have n2_ := aM (Kd.V_below (mV_ HL208_0.out) hb)
   have n3_ := aM (Kd.N_below (mN_ HO212.out) hb)
   have n4_ := aM (Kd.V_below (mV_ HL216_0.out) hb)
   have n5_ := aM (Kd.V_lower (Kd.V_mono (ok' := fun k_ => (P1_ k_ ∨ w.heap.size ≤ k_) ∧ some k_ ≠ (u5 : Value).ownBlock) ho0 (fun k_ hk_ => ⟨Or.elim hk_ (fun hs_ => hs_.1) (fun hn_ => (.inr (Nat.le_trans (below_size zb) hn_))), Or.elim hk_ (fun hs_ => hs_.2) (fun hn_ => (Kd.fresh' (Kd.N_lt (mN_ HO_5.out)) k_ hn_))⟩)) (below_size zb))
   have n6_ := aM (Kd.C_below (mQ_ HR208_0.out) hb)
   have n7_ := aM (Kd.C_below (mQ_ HR216_0.out) hb)
   have n8_ := aM (below_step zb hb)
   clear HO_1
   clear HO_5
   clear HL208_0
   clear HO212
   clear HL216_0
   clear HR208_0
   clear HR216_0
   clear HB
   have HO_1 := n0_
   have HO_5 := n1_
   have HL208_0 := n2_
   have HO212 := n3_
   have HL216_0 := n4_
   have HO215 := n5_
   have HR208_0 := n6_
   have HR216_0 := n7_
   have HB := n8_
   clear n0_ n1_ n2_ n3_ n4_ n5_ n6_ n7_ n8_
   (try clear hb)
   (try clear hb2)
   (try clear hk)
   (try clear hi)
   (try clear ho0)
   obtain ⟨Ao16, co16, eo16⟩ := Kd.V_slice HO215.out
   (first | subst eo16 | (injection eo16 with f1_ f2_ f3_; have f4_ := f1_.symm; have f5_ := f3_.symm; clear f1_ f2_ f3_; subst f4_; subst f5_))
   refine hK.out _ _ (HS0_) (fun hHeld => ?_)
   clear hK K
   refine norm_ (a' := ?_) ?_ ?_
   rotate_left
   ·show Act.put _ (some 26) _ = _
    simp only [Act.put, xA, xB, xC, i64_w, i32_w]
    rfl
   refine one_ (i := 6) (N := some 31) #[true, true, true, true, true, true, true, false] rfl rfl (one_of HT_.out (by kernel_rfl)) (by decide) (fun K hK => ?_)
   refine goes_ Try.func25 (by kernel_rfl) rfl #[.slice Ao16 t213.length co16, .slice A216_0 (rd_L2 l1 x6_1).length c216_0] (by rfl) rfl rfl zm ?_
   with_reducible refine (spec_CompareShapes.calls k1 _ _ t213 _ _ (rd_L2 l1 x6_1) t217 _ ?side1 ?side2 ?side3 ?side4 A9.out).mono ?_
   (case side1 => repeat (first | exact (Kd.V_reads' HO215.out).2.2 | (with_reducible refine Kd.C_alloc ?_ _) | (with_reducible refine Kd.C_drewN ?_ _) | (with_reducible refine Kd.C_drew ?_)))
   (case side2 => exact (Kd.V_reads' HO215.out).2.1)
   (case side3 => repeat (first | exact (mQ_ HR216_0.out) | (with_reducible refine Kd.C_alloc ?_ _) | (with_reducible refine Kd.C_drewN ?_ _) | (with_reducible refine Kd.C_drew ?_)))
   (case side4 => exact HC216_0.out)
   rintro e w17 ⟨rfl, hb⟩
   have HS0_ := zk hb (hHeld)
   refine ⟨_, rfl, ?_⟩
   have n0_ := aM (Kd.V_below (mV_ HO_1.out) hb)
   have n1_ := aM (Kd.N_below (mN_ HO_5.out) hb)
   have n2_ := aM (Kd.V_below (mV_ HL208_0.out) hb)
   have n3_ := aM (Kd.N_below (mN_ HO212.out) hb)
   have n4_ := aM (Kd.V_below (mV_ HL216_0.out) hb)
   have n5_ := aM (Kd.V_below (mV_ HO215.out) hb)
   have n6_ := aM (Kd.C_below (mQ_ HR208_0.out) hb)
   have n7_ := aM (Kd.C_below (mQ_ HR216_0.out) hb)
   have n8_ := aM (below_step zb hb)
   clear HO_1
   clear HO_5
   clear HL208_0
   clear HO212
   clear HL216_0
   clear HO215
   clear HR208_0
   clear HR216_0
   clear HB
   have HO_1 := n0_
   have HO_5 := n1_
   have HL208_0 := n2_
   have HO212 := n3_
   have HL216_0 := n4_
   have HO215 := n5_
   have HR208_0 := n6_
   have HR216_0 := n7_
   have HB := n8_
   clear n0_ n1_ n2_ n3_ n4_ n5_ n6_ n7_ n8_
   (try clear hb)
   (try clear hb2)
   (try clear hk)
   (try clear hi)
   refine hK.out _ _ (HS0_) (fun hHeld => ?_)
   clear hK K
   refine norm_ (a' := ?_) ?_ ?_
   rotate_left
   ·show Act.put _ (some 31) _ = _
    simp only [Act.put, xA, xB, xC, i64_w, i32_w]
    rfl
   refine zp 7 (some 32) ?_ #[true, true, true, true, true, true, true, true] rfl rfl (Or.inl ⟨by rfl, ?_⟩) ?_ ?_ ?_
   rotate_left
   ·intro w'
    go_simp
    with_reducible rfl
   rotate_left
   ·simp only [Act.put, xA, xB, xC, i64_w, i32_w]
    rfl
   refine done_ (done_of HT_.out (by kernel_rfl)) ?_; (try clear HS0_); (try clear hHeld)
   have p218 : 0 ≤ (x6_1 : Int) := of_decide_eq_true za
   have q218 : x6_1 < (l1.length : Int) := of_decide_eq_true za
   obtain ⟨ad218, A218_0, c218_0, e218, hx218_0, hl218_0, hi218_0⟩ := at_L2 (Kd.V_reads' HO_1.out).2.2 x6_1 p218 q218
   obtain rfl : ad208 = ad218 := (by injection e218)
   obtain ⟨ce218, hce218, hMe218, hcc218⟩ := Kd.V_get HO_1.out [] x6_1 p218 (by first | exact q218 | exact of_decide_eq_true za | (have e_ := (Kd.V_reads' HO_1.out).1; omega))
   obtain ⟨ua218_0, uc218_0, rfl, ul218_0, ge218_0⟩ := Kd.FK_slice_open hMe218
   have hv218_0 := hcc218 0 _ rfl
   rw [Nat.add_zero, show ((Kd.slice 43 k43)).sz = 1 from rfl, Nat.mul_one] at hv218_0
   replace hv218_0 := Option.some.inj (hv218_0.symm.trans hx218_0)
   injection hv218_0 with hva_ hvn_ hvc_
   rw [hva_] at ge218_0
   rw [hvc_] at ul218_0
   have HL218_0 := aM (show Kd.V k43 43 _ w.heap.size _ _ (rd_L2 l1 x6_1) from Kd.V_mk ul218_0 ge218_0)
   clear hva_ hvn_ hvc_ ge218_0 ul218_0
   clear hcc218 hce218
   have HR218_0 := aM hi218_0
   have HC218_0 := aM hl218_0
   clear hi218_0 hl218_0
   replace p218 := eq_true p218
   replace q218 := eq_true q218
   try go_wp2_with (first | ((with_reducible refine gate_builtin (b := .append) (xs := #[.tmp 33, .tmp 38]) rfl ?_); at_builtin; refine Kd.N_append (Kd.slice 43 k43) (w0 := w) w.heap.size rfl (.tmp 33) (.tmp 38) 22 36 (.slice none 0 0) 24 rfl Try.underlying22 info36 rfl (by decide) (by omega) u5 x5_1 (rd_L2 l1 x6_1) [.slice A218_0 (rd_L2 l1 x6_1).length c218_0] (fun k_ => (P1_ k_ ∨ w.heap.size ≤ k_) ∧ some k_ ≠ (.slice Ao14 t209.length co14 : Value).ownBlock) (fun k_ => ((fun k_ => (P1_ k_ ∨ w.heap.size ≤ k_) ∧ some k_ ≠ (.slice Ao14 t209.length co14 : Value).ownBlock)) k_ ∧ some k_ ≠ (u5 : Value).ownBlock) rfl rfl ?aP (fun _ hk => hk) ?aF ?aO ?aB ?aS ?aL ?_; (case aP => first | exact (Kd.FK_slice_mk (Kd.V_reads' (Kd.V_mono (ok' := (fun k_ => ((fun k_ => (P1_ k_ ∨ w.heap.size ≤ k_) ∧ some k_ ≠ (.slice Ao14 t209.length co14 : Value).ownBlock)) k_ ∧ some k_ ≠ (u5 : Value).ownBlock)) (Kd.V_drewN HL218_0.out _) (fun k_ hk => ⟨⟨hk.1.1, hk.2⟩, hk.1.2⟩))).2.1 (Kd.V_F (Kd.V_mono (ok' := (fun k_ => ((fun k_ => (P1_ k_ ∨ w.heap.size ≤ k_) ∧ some k_ ≠ (.slice Ao14 t209.length co14 : Value).ownBlock)) k_ ∧ some k_ ≠ (u5 : Value).ownBlock)) (Kd.V_drewN HL218_0.out _) (fun k_ hk => ⟨⟨hk.1.1, hk.2⟩, hk.1.2⟩)))) | exact (Kd.FK_slice_mk (Kd.V_reads' (Kd.V_mono (ok' := (fun k_ => ((fun k_ => (P1_ k_ ∨ w.heap.size ≤ k_) ∧ some k_ ≠ (.slice Ao14 t209.length co14 : Value).ownBlock)) k_ ∧ some k_ ≠ (u5 : Value).ownBlock)) (HL218_0.out) (fun k_ hk => ⟨⟨hk.1.1, hk.2⟩, hk.1.2⟩))).2.1 (Kd.V_F (Kd.V_mono (ok' := (fun k_ => ((fun k_ => (P1_ k_ ∨ w.heap.size ≤ k_) ∧ some k_ ≠ (.slice Ao14 t209.length co14 : Value).ownBlock)) k_ ∧ some k_ ≠ (u5 : Value).ownBlock)) (HL218_0.out) (fun k_ hk => ⟨⟨hk.1.1, hk.2⟩, hk.1.2⟩)))) | exact (Kd.FK_slice_mk (Kd.V_reads' (Kd.V_mono (ok' := (fun k_ => ((fun k_ => (P1_ k_ ∨ w.heap.size ≤ k_) ∧ some k_ ≠ (.slice Ao14 t209.length co14 : Value).ownBlock)) k_ ∧ some k_ ≠ (u5 : Value).ownBlock)) (Kd.V_alloc (Kd.V_drewN HL218_0.out _) _) (fun k_ hk => ⟨⟨hk.1.1, hk.2⟩, hk.1.2⟩))).2.1 (Kd.V_F (Kd.V_mono (ok' := (fun k_ => ((fun k_ => (P1_ k_ ∨ w.heap.size ≤ k_) ∧ some k_ ≠ (.slice Ao14 t209.length co14 : Value).ownBlock)) k_ ∧ some k_ ≠ (u5 : Value).ownBlock)) (Kd.V_alloc (Kd.V_drewN HL218_0.out _) _) (fun k_ hk => ⟨⟨hk.1.1, hk.2⟩, hk.1.2⟩)))) | (have h2_ := Kd.V_mono (ok' := (fun k_ => ((fun k_ => (P1_ k_ ∨ w.heap.size ≤ k_) ∧ some k_ ≠ (.slice Ao14 t209.length co14 : Value).ownBlock)) k_ ∧ some k_ ≠ (u5 : Value).ownBlock)) (Kd.V_drewN HL218_0.out nd) (fun k_ hk => ⟨⟨hk.1.1, hk.2⟩, hk.1.2⟩); exact Kd.FK_slice_mk (Kd.V_reads' h2_).2.1 (Kd.V_F h2_))); (case aB => exact zb); (case aF => exact (fun k_ hk => ⟨(.inr (Nat.le_trans (below_size zb) hk)), Kd.fresh' (Kd.N_lt (mN_ HO212.out)) k_ hk⟩)); (case aO => exact (mN_ HO_5.out)); (case aS => exact (below_size zb)); (case aL => have := LMc11.out; omega); intro v220 w18 ho hb hg hat; rw [← Ny219.out] at ho; have n0_ := aM (Kd.V_afterv (ok := (fun k_ => (P1_ k_ ∨ w.heap.size ≤ k_) ∧ some k_ ≠ (.slice Ao14 t209.length co14 : Value).ownBlock)) (zd3 HO_1.out) hg hat); have n1_ := aM (Kd.V_afterv (ok := (fun k_ => (P1_ k_ ∨ w.heap.size ≤ k_) ∧ some k_ ≠ (.slice Ao14 t209.length co14 : Value).ownBlock)) (zd3 HL208_0.out) hg hat); have n2_ := aM (Kd.N_afterv (ok := (fun k_ => (P1_ k_ ∨ w.heap.size ≤ k_))) (mN_ HO212.out) hg hat); have n3_ := aM (Kd.V_afterv (ok := (fun k_ => (P1_ k_ ∨ w.heap.size ≤ k_) ∧ some k_ ≠ (.slice Ao14 t209.length co14 : Value).ownBlock)) (zd3 HL216_0.out) hg hat); have n4_ := aM (Kd.V_afterv (ok := (fun k_ => (P1_ k_ ∨ w.heap.size ≤ k_))) (mV_ HO215.out) hg hat); have n5_ := aM (Kd.V_afterv (ok := (fun k_ => (P1_ k_ ∨ w.heap.size ≤ k_) ∧ some k_ ≠ (.slice Ao14 t209.length co14 : Value).ownBlock)) (zd3 HL218_0.out) hg hat); have n6_ := aM (hb); have n7_ := aM (ho); clear HO_1 HL208_0 HO212 HL216_0 HO215 HL218_0 HB HO_5; have HO_1 := n0_; have HL208_0 := n1_; have HO212 := n2_; have HL216_0 := n3_; have HO215 := n4_; have HL218_0 := n5_; have HB := n6_; have HO221 := n7_; clear n0_ n1_ n2_ n3_ n4_ n5_ n6_ n7_; clear ho hb hg hat))
   go_roundg k1
   case measure => have := HK1.out; omega
   case rel => exact ⟨(y219), (wrap64 (x6_1 + 1)), zr, H', ⟨by have := HK1.out; omega⟩, ⟨zd4 HO_1.out⟩, ⟨zd5 HO221.out⟩, ⟨zb⟩⟩
def spec_l07Around.f (a0 : Int) (a1_0 : Int) (a1_1 : Int) : Option ((List (S43))) := if a0 = 1 then (some (([(⟨a1_0, wrap64 (a1_1 - 1)⟩ : S43), (⟨wrap64 (a1_0 + 1), wrap64 (a1_1 - 1)⟩ : S43), (⟨wrap64 (a1_0 - 1), a1_1⟩ : S43), (⟨wrap64 (a1_0 + 1), a1_1⟩ : S43), (⟨wrap64 (a1_0 - 1), wrap64 (a1_1 + 1)⟩ : S43), (⟨a1_0, wrap64 (a1_1 + 1)⟩ : S43)] : List (S43)))) else ((spec_l01Mod.f a1_0 3).bind fun t226 => (if t226 = 1 then (some (([(⟨wrap64 (a1_0 + 1), wrap64 (a1_1 - 2)⟩ : S43), (⟨wrap64 (a1_0 - 2), wrap64 (a1_1 + 1)⟩ : S43), (⟨wrap64 (a1_0 + 1), wrap64 (a1_1 + 1)⟩ : S43)] : List (S43)))) else (some (([(⟨wrap64 (a1_0 - 1), wrap64 (a1_1 - 1)⟩ : S43), (⟨wrap64 (a1_0 + 2), wrap64 (a1_1 - 1)⟩ : S43), (⟨wrap64 (a1_0 - 1), wrap64 (a1_1 + 2)⟩ : S43)] : List (S43))))))
theorem spec_l07Around.calls (a0 : Int) (a1_0 : Int) (a1_1 : Int) (r : List (S43)) (w : World) (h : spec_l07Around.f a0 a1_0 a1_1 = some r) :
  Calls Try.prog 27 #[.int .i64 a0, .agg #[.int .i64 a1_0, .int .i64 a1_1]] w fun e w' => ∃ v0_ : Value, e = .returned (v0_) ∧ Kd.R k43 43 w' w.heap.size (fun _ => True) v0_ r ∧ Below w.heap.size w w' := by
 have hu43 := Try.underlying43
 have HB := aM (Below.refl w.heap.size w)
 have H : (if a0 = 1 then (some (([(⟨a1_0, wrap64 (a1_1 - 1)⟩ : S43), (⟨wrap64 (a1_0 + 1), wrap64 (a1_1 - 1)⟩ : S43), (⟨wrap64 (a1_0 - 1), a1_1⟩ : S43), (⟨wrap64 (a1_0 + 1), a1_1⟩ : S43), (⟨wrap64 (a1_0 - 1), wrap64 (a1_1 + 1)⟩ : S43), (⟨a1_0, wrap64 (a1_1 + 1)⟩ : S43)] : List (S43)))) else ((spec_l01Mod.f a1_0 3).bind fun t226 => (if t226 = 1 then (some (([(⟨wrap64 (a1_0 + 1), wrap64 (a1_1 - 2)⟩ : S43), (⟨wrap64 (a1_0 - 2), wrap64 (a1_1 + 1)⟩ : S43), (⟨wrap64 (a1_0 + 1), wrap64 (a1_1 + 1)⟩ : S43)] : List (S43)))) else (some (([(⟨wrap64 (a1_0 - 1), wrap64 (a1_1 - 1)⟩ : S43), (⟨wrap64 (a1_0 + 2), wrap64 (a1_1 - 1)⟩ : S43), (⟨wrap64 (a1_0 - 1), wrap64 (a1_1 + 2)⟩ : S43)] : List (S43))))))) = some r := h
 clear h
 by_cases c3 : a0 = 1
 ·rw [if_pos c3] at H
  have c3b0 : (a0 == 1) = true := beq_iff_eq.mpr c3
  have c3b1 : (a0 != 1) = false := bne_eq_false_iff_eq.mpr c3
  clear c3
  obtain ⟨y223, hy223⟩ : ∃ y_ : List (S43), y_ = (([(⟨a1_0, wrap64 (a1_1 - 1)⟩ : S43), (⟨wrap64 (a1_0 + 1), wrap64 (a1_1 - 1)⟩ : S43), (⟨wrap64 (a1_0 - 1), a1_1⟩ : S43), (⟨wrap64 (a1_0 + 1), a1_1⟩ : S43), (⟨wrap64 (a1_0 - 1), wrap64 (a1_1 + 1)⟩ : S43), (⟨a1_0, wrap64 (a1_1 + 1)⟩ : S43)] : List (S43))) := ⟨_, rfl⟩
  replace H : (some y223) = some r := zy H hy223
  have Ny223 := aM hy223
  clear hy223
  obtain rfl := Option.some.inj H
  go_enter Try.func27, Try.ntmps27
  go_wp2_with (first | ((with_reducible refine gate_dst (N := 3) rfl ?_); refine zx 3 #[.int .i64 a1_0, .int .i64 a1_1] 43 ?_; intro gb222 hg w4 hbox hb; have n0_ := aM (below_step zb hb); have n1_ := aM (hbox); have n2_ := aM ((ze : w.heap.size ≤ gb222)); have n3_ := aM ((ze : w.heap.size ≤ gb222)); clear HB; have HB := n0_; have BK222 := n1_; have GW222 := n2_; have GE222 := n3_; clear n0_ n1_ n2_ n3_ hb hbox hg; have hcz5_0 : w4.cell? ⟨gb222, 0, none⟩ = some (.int .i64 a1_0) := (blk_cell BK222.out 0).trans rfl; have hcz5_1 : w4.cell? ⟨gb222, 1, none⟩ = some (.int .i64 a1_1) := (blk_cell BK222.out 1).trans rfl; have hfz5_0 := blk_frozen BK222.out 0; have hfz5_1 := blk_frozen BK222.out 1) | ((with_reducible refine gate_dst (N := 45) rfl ?_); refine Kd.R_lit k43 _ 43 ?hg (N := 45) ?hd (xs := ([(⟨a1_0, wrap64 (a1_1 - 1)⟩ : S43), (⟨wrap64 (a1_0 + 1), wrap64 (a1_1 - 1)⟩ : S43), (⟨wrap64 (a1_0 - 1), a1_1⟩ : S43), (⟨wrap64 (a1_0 + 1), a1_1⟩ : S43), (⟨wrap64 (a1_0 - 1), wrap64 (a1_1 + 1)⟩ : S43), (⟨a1_0, wrap64 (a1_1 + 1)⟩ : S43)] : List (S43))) (inner := [.int .i64 a1_0, .int .i64 (wrap64 (a1_1 - 1)), .int .i64 (wrap64 (a1_0 + 1)), .int .i64 (wrap64 (a1_1 - 1)), .int .i64 (wrap64 (a1_0 - 1)), .int .i64 a1_1, .int .i64 (wrap64 (a1_0 + 1)), .int .i64 a1_1, .int .i64 (wrap64 (a1_0 - 1)), .int .i64 (wrap64 (a1_1 + 1)), .int .i64 a1_0, .int .i64 (wrap64 (a1_1 + 1))]) (ok := fun _ => True) (okp := fun _ => True) ?hr ?hp (fun _ hk => hk) trivial (Below.refl _ _) (Nat.le_refl _) (by simp) ?_; (case hd => rfl); (case hg => rfl); (case hr => first | (go_simp; done) | (go_simp; rfl)); (case hp => exact (Reps.c2 (show Kd.M k43 _ _ _ (⟨a1_0, wrap64 (a1_1 - 1)⟩ : S43) [.int .i64 a1_0, .int .i64 (wrap64 (a1_1 - 1))] from (k43_mkM _ _ _ (⟨a1_0, wrap64 (a1_1 - 1)⟩ : S43) )) (Reps.c2 (show Kd.M k43 _ _ _ (⟨wrap64 (a1_0 + 1), wrap64 (a1_1 - 1)⟩ : S43) [.int .i64 (wrap64 (a1_0 + 1)), .int .i64 (wrap64 (a1_1 - 1))] from (k43_mkM _ _ _ (⟨wrap64 (a1_0 + 1), wrap64 (a1_1 - 1)⟩ : S43) )) (Reps.c2 (show Kd.M k43 _ _ _ (⟨wrap64 (a1_0 - 1), a1_1⟩ : S43) [.int .i64 (wrap64 (a1_0 - 1)), .int .i64 a1_1] from (k43_mkM _ _ _ (⟨wrap64 (a1_0 - 1), a1_1⟩ : S43) )) (Reps.c2 (show Kd.M k43 _ _ _ (⟨wrap64 (a1_0 + 1), a1_1⟩ : S43) [.int .i64 (wrap64 (a1_0 + 1)), .int .i64 a1_1] from (k43_mkM _ _ _ (⟨wrap64 (a1_0 + 1), a1_1⟩ : S43) )) (Reps.c2 (show Kd.M k43 _ _ _ (⟨wrap64 (a1_0 - 1), wrap64 (a1_1 + 1)⟩ : S43) [.int .i64 (wrap64 (a1_0 - 1)), .int .i64 (wrap64 (a1_1 + 1))] from (k43_mkM _ _ _ (⟨wrap64 (a1_0 - 1), wrap64 (a1_1 + 1)⟩ : S43) )) (Reps.c2 (show Kd.M k43 _ _ _ (⟨a1_0, wrap64 (a1_1 + 1)⟩ : S43) [.int .i64 a1_0, .int .i64 (wrap64 (a1_1 + 1))] from (k43_mkM _ _ _ (⟨a1_0, wrap64 (a1_1 + 1)⟩ : S43) )) (Reps.none _ _)))))))); intro v224 w6 ho7 hb hg_ hnew_; clear hg_ hnew_; (first | rw [← Ny223.out] at ho7 | (simp only [Int.reduceToNat] at ho7; rw [← Ny223.out] at ho7)); have n0_ := aM (Kd.R_lower (Kd.R_newB ho7 (g := gb222) (o := .cells #[.int .i64 a1_0, .int .i64 a1_1] 43 (0, 0)) (mB_ BK222.out)) (below_size (zs GE222.out))); have n1_ := aM (blk_below (g := gb222) (o := .cells #[.int .i64 a1_0, .int .i64 a1_1] 43 (0, 0)) (mB_ BK222.out) hb); have n2_ := aM (below_step (zs GE222.out) hb); clear BK222 HB; have HO225 := n0_; have BK222 := n1_; have HB := n2_; clear n0_ n1_ n2_; clear hb ho7))
  go_ret
  exact ⟨_, zw, zd1 HO225.out, zs GE222.out⟩
 rw [if_neg c3] at H
 have c3b0 : (a0 == 1) = false := beq_eq_false_iff_ne.mpr c3
 have c3b1 : (a0 != 1) = true := bne_iff_ne.mpr c3
 replace H := Option.bind_eq_some_iff.mp H
 obtain ⟨t226, A80, H⟩ := H
 replace H : (if t226 = 1 then (some (([(⟨wrap64 (a1_0 + 1), wrap64 (a1_1 - 2)⟩ : S43), (⟨wrap64 (a1_0 - 2), wrap64 (a1_1 + 1)⟩ : S43), (⟨wrap64 (a1_0 + 1), wrap64 (a1_1 + 1)⟩ : S43)] : List (S43)))) else (some (([(⟨wrap64 (a1_0 - 1), wrap64 (a1_1 - 1)⟩ : S43), (⟨wrap64 (a1_0 + 2), wrap64 (a1_1 - 1)⟩ : S43), (⟨wrap64 (a1_0 - 1), wrap64 (a1_1 + 2)⟩ : S43)] : List (S43))))) = some r := H
 have A8 := aM A80
 clear A80
 by_cases c9 : t226 = 1
 rotate_left
 ·rw [if_neg c9] at H
  have c9b0 : (t226 == 1) = false := beq_eq_false_iff_ne.mpr c9
  have c9b1 : (t226 != 1) = true := bne_iff_ne.mpr c9
  obtain ⟨y230, hy230⟩ : ∃ y_ : List (S43), y_ = (([(⟨wrap64 (a1_0 - 1), wrap64 (a1_1 - 1)⟩ : S43), (⟨wrap64 (a1_0 + 2), wrap64 (a1_1 - 1)⟩ : S43), (⟨wrap64 (a1_0 - 1), wrap64 (a1_1 + 2)⟩ : S43)] : List (S43))) := ⟨_, rfl⟩
  replace H : (some y230) = some r := zy H hy230
  have Ny230 := aM hy230
  clear hy230
  obtain rfl := Option.some.inj H
  go_enter Try.func27, Try.ntmps27
  go_wp2_with (first | ((with_reducible refine gate_dst (N := 3) rfl ?_); refine zx 3 #[.int .i64 a1_0, .int .i64 a1_1] 43 ?_; intro gb222 hg w14 hbox hb; have n0_ := aM (below_step zb hb); have n1_ := aM (hbox); have n2_ := aM ((ze : w.heap.size ≤ gb222)); have n3_ := aM ((ze : w.heap.size ≤ gb222)); clear HB; have HB := n0_; have BK222 := n1_; have GW222 := n2_; have GE222 := n3_; clear n0_ n1_ n2_ n3_ hb hbox hg; have hcz15_0 : w14.cell? ⟨gb222, 0, none⟩ = some (.int .i64 a1_0) := (blk_cell BK222.out 0).trans rfl; have hcz15_1 : w14.cell? ⟨gb222, 1, none⟩ = some (.int .i64 a1_1) := (blk_cell BK222.out 1).trans rfl; have hfz15_0 := blk_frozen BK222.out 0; have hfz15_1 := blk_frozen BK222.out 1) | ((with_reducible refine gate_callee (f := 44) rfl ?_); refine goesL_ (some 48) rfl rfl Try.func44 (by kernel_rfl) rfl #[.int .i64 a1_0, .int .i64 3] rfl zm ?_; (with_reducible refine (spec_l01Mod.calls a1_0 3 t226 _ A8.out).mono ?_); rintro e w' ⟨rfl, ⟨nd, rfl⟩⟩; refine ⟨_, rfl, ?_⟩) | ((with_reducible refine gate_dst (N := 93) rfl ?_); refine Kd.R_lit k43 _ 43 ?hg (N := 93) ?hd (xs := ([(⟨wrap64 (a1_0 - 1), wrap64 (a1_1 - 1)⟩ : S43), (⟨wrap64 (a1_0 + 2), wrap64 (a1_1 - 1)⟩ : S43), (⟨wrap64 (a1_0 - 1), wrap64 (a1_1 + 2)⟩ : S43)] : List (S43))) (inner := [.int .i64 (wrap64 (a1_0 - 1)), .int .i64 (wrap64 (a1_1 - 1)), .int .i64 (wrap64 (a1_0 + 2)), .int .i64 (wrap64 (a1_1 - 1)), .int .i64 (wrap64 (a1_0 - 1)), .int .i64 (wrap64 (a1_1 + 2))]) (ok := fun _ => True) (okp := fun _ => True) ?hr ?hp (fun _ hk => hk) trivial (Below.refl _ _) (Nat.le_refl _) (by simp) ?_; (case hd => rfl); (case hg => rfl); (case hr => first | (go_simp; done) | (go_simp; rfl)); (case hp => exact (Reps.c2 (show Kd.M k43 _ _ _ (⟨wrap64 (a1_0 - 1), wrap64 (a1_1 - 1)⟩ : S43) [.int .i64 (wrap64 (a1_0 - 1)), .int .i64 (wrap64 (a1_1 - 1))] from (k43_mkM _ _ _ (⟨wrap64 (a1_0 - 1), wrap64 (a1_1 - 1)⟩ : S43) )) (Reps.c2 (show Kd.M k43 _ _ _ (⟨wrap64 (a1_0 + 2), wrap64 (a1_1 - 1)⟩ : S43) [.int .i64 (wrap64 (a1_0 + 2)), .int .i64 (wrap64 (a1_1 - 1))] from (k43_mkM _ _ _ (⟨wrap64 (a1_0 + 2), wrap64 (a1_1 - 1)⟩ : S43) )) (Reps.c2 (show Kd.M k43 _ _ _ (⟨wrap64 (a1_0 - 1), wrap64 (a1_1 + 2)⟩ : S43) [.int .i64 (wrap64 (a1_0 - 1)), .int .i64 (wrap64 (a1_1 + 2))] from (k43_mkM _ _ _ (⟨wrap64 (a1_0 - 1), wrap64 (a1_1 + 2)⟩ : S43) )) (Reps.none _ _))))); intro v231 w16 ho17 hb hg_ hnew_; clear hg_ hnew_; (first | rw [← Ny230.out] at ho17 | (simp only [Int.reduceToNat] at ho17; rw [← Ny230.out] at ho17)); have n0_ := aM (Kd.R_lower (Kd.R_newB ho17 (g := gb222) (o := .cells #[.int .i64 a1_0, .int .i64 a1_1] 43 (0, 0)) (mB_ BK222.out)) (below_size (zs GE222.out))); have n1_ := aM (blk_below (g := gb222) (o := .cells #[.int .i64 a1_0, .int .i64 a1_1] 43 (0, 0)) (mB_ BK222.out) hb); have n2_ := aM (below_step (zs GE222.out) hb); clear BK222 HB; have HO232 := n0_; have BK222 := n1_; have HB := n2_; clear n0_ n1_ n2_; clear hb ho17))
  go_ret
  exact ⟨_, zw, zd1 HO232.out, zs GE222.out⟩
 rw [if_pos c9] at H
 have c9b0 : (t226 == 1) = true := beq_iff_eq.mpr c9
 have c9b1 : (t226 != 1) = false := bne_eq_false_iff_eq.mpr c9
 clear c9
 obtain ⟨y227, hy227⟩ : ∃ y_ : List (S43), y_ = (([(⟨wrap64 (a1_0 + 1), wrap64 (a1_1 - 2)⟩ : S43), (⟨wrap64 (a1_0 - 2), wrap64 (a1_1 + 1)⟩ : S43), (⟨wrap64 (a1_0 + 1), wrap64 (a1_1 + 1)⟩ : S43)] : List (S43))) := ⟨_, rfl⟩
 replace H : (some y227) = some r := zy H hy227
 have Ny227 := aM hy227
 clear hy227
 obtain rfl := Option.some.inj H
 go_enter Try.func27, Try.ntmps27
 go_wp2_with (first | ((with_reducible refine gate_dst (N := 3) rfl ?_); refine zx 3 #[.int .i64 a1_0, .int .i64 a1_1] 43 ?_; intro gb222 hg w10 hbox hb; have n0_ := aM (below_step zb hb); have n1_ := aM (hbox); have n2_ := aM ((ze : w.heap.size ≤ gb222)); have n3_ := aM ((ze : w.heap.size ≤ gb222)); clear HB; have HB := n0_; have BK222 := n1_; have GW222 := n2_; have GE222 := n3_; clear n0_ n1_ n2_ n3_ hb hbox hg; have hcz11_0 : w10.cell? ⟨gb222, 0, none⟩ = some (.int .i64 a1_0) := (blk_cell BK222.out 0).trans rfl; have hcz11_1 : w10.cell? ⟨gb222, 1, none⟩ = some (.int .i64 a1_1) := (blk_cell BK222.out 1).trans rfl; have hfz11_0 := blk_frozen BK222.out 0; have hfz11_1 := blk_frozen BK222.out 1) | ((with_reducible refine gate_callee (f := 44) rfl ?_); refine goesL_ (some 48) rfl rfl Try.func44 (by kernel_rfl) rfl #[.int .i64 a1_0, .int .i64 3] rfl zm ?_; (with_reducible refine (spec_l01Mod.calls a1_0 3 t226 _ A8.out).mono ?_); rintro e w' ⟨rfl, ⟨nd, rfl⟩⟩; refine ⟨_, rfl, ?_⟩) | ((with_reducible refine gate_dst (N := 71) rfl ?_); refine Kd.R_lit k43 _ 43 ?hg (N := 71) ?hd (xs := ([(⟨wrap64 (a1_0 + 1), wrap64 (a1_1 - 2)⟩ : S43), (⟨wrap64 (a1_0 - 2), wrap64 (a1_1 + 1)⟩ : S43), (⟨wrap64 (a1_0 + 1), wrap64 (a1_1 + 1)⟩ : S43)] : List (S43))) (inner := [.int .i64 (wrap64 (a1_0 + 1)), .int .i64 (wrap64 (a1_1 - 2)), .int .i64 (wrap64 (a1_0 - 2)), .int .i64 (wrap64 (a1_1 + 1)), .int .i64 (wrap64 (a1_0 + 1)), .int .i64 (wrap64 (a1_1 + 1))]) (ok := fun _ => True) (okp := fun _ => True) ?hr ?hp (fun _ hk => hk) trivial (Below.refl _ _) (Nat.le_refl _) (by simp) ?_; (case hd => rfl); (case hg => rfl); (case hr => first | (go_simp; done) | (go_simp; rfl)); (case hp => exact (Reps.c2 (show Kd.M k43 _ _ _ (⟨wrap64 (a1_0 + 1), wrap64 (a1_1 - 2)⟩ : S43) [.int .i64 (wrap64 (a1_0 + 1)), .int .i64 (wrap64 (a1_1 - 2))] from (k43_mkM _ _ _ (⟨wrap64 (a1_0 + 1), wrap64 (a1_1 - 2)⟩ : S43) )) (Reps.c2 (show Kd.M k43 _ _ _ (⟨wrap64 (a1_0 - 2), wrap64 (a1_1 + 1)⟩ : S43) [.int .i64 (wrap64 (a1_0 - 2)), .int .i64 (wrap64 (a1_1 + 1))] from (k43_mkM _ _ _ (⟨wrap64 (a1_0 - 2), wrap64 (a1_1 + 1)⟩ : S43) )) (Reps.c2 (show Kd.M k43 _ _ _ (⟨wrap64 (a1_0 + 1), wrap64 (a1_1 + 1)⟩ : S43) [.int .i64 (wrap64 (a1_0 + 1)), .int .i64 (wrap64 (a1_1 + 1))] from (k43_mkM _ _ _ (⟨wrap64 (a1_0 + 1), wrap64 (a1_1 + 1)⟩ : S43) )) (Reps.none _ _))))); intro v228 w12 ho13 hb hg_ hnew_; clear hg_ hnew_; (first | rw [← Ny227.out] at ho13 | (simp only [Int.reduceToNat] at ho13; rw [← Ny227.out] at ho13)); have n0_ := aM (Kd.R_lower (Kd.R_newB ho13 (g := gb222) (o := .cells #[.int .i64 a1_0, .int .i64 a1_1] 43 (0, 0)) (mB_ BK222.out)) (below_size (zs GE222.out))); have n1_ := aM (blk_below (g := gb222) (o := .cells #[.int .i64 a1_0, .int .i64 a1_1] 43 (0, 0)) (mB_ BK222.out) hb); have n2_ := aM (below_step (zs GE222.out) hb); clear BK222 HB; have HO229 := n0_; have BK222 := n1_; have HB := n2_; clear n0_ n1_ n2_; clear hb ho13))
 go_ret
 exact ⟨_, zw, zd1 HO229.out, zs GE222.out⟩
def spec_l02Index.l0 : Nat → List (S43) → Int → Int → Int → Option (Int)
 | 0, _, _, _, _ => none
 | k + 1, x0, x5, x234000, x234001 => if x5 < (x0.length : Int) then (if 0 ≤ x5 then (if (((rd_T43 x0 x5).f0) == x234000 && (((rd_T43 x0 x5).f1) == x234001)) = true then (some x5) else (spec_l02Index.l0 k x0 (wrap64 (x5 + 1)) x234000 x234001)) else (none)) else (some (-1))
def spec_l02Index.f (k : Nat) (l0 : List (S43)) (a1_0 : Int) (a1_1 : Int) : Option (Int) := spec_l02Index.l0 k l0 0 a1_0 a1_1
theorem spec_l02Index.calls (k : Nat) (A0 : Option Addr) (c0 : Nat) (l0 : List (S43)) (a1_0 : Int) (a1_1 : Int) (r : Int) (w : World) (hr0 : Kd.C k43 w A0 l0.length l0) (hc0 : l0.length ≤ c0) (h : spec_l02Index.f k l0 a1_0 a1_1 = some r) :
  Calls Try.prog 28 #[.slice A0 l0.length c0, .agg #[.int .i64 a1_0, .int .i64 a1_1]] w fun e w' => e = .returned (.int .i64 r) ∧ Below w.heap.size w w' := by
 have hu43 := Try.underlying43
 have HR0 := aM hr0
 have HC0 := aM hc0
 clear hr0 hc0
 have HB := aM (Below.refl w.heap.size w)
 have H : (spec_l02Index.l0 k l0 0 a1_0 a1_1) = some r := h
 clear h
 have H' := aM H
 clear H
 go_enter Try.func28, Try.ntmps28
 go_wp2_with (first | ((with_reducible refine gate_dst (N := 3) rfl ?_); refine zx 3 #[.int .i64 a1_0, .int .i64 a1_1] 43 ?_; intro gb233 hg w3 hbox hb; have n0_ := aM (below_step zb hb); have n1_ := aM (hbox); have n2_ := aM ((ze : w.heap.size ≤ gb233)); have n3_ := aM ((ze : w.heap.size ≤ gb233)); clear HB; have HB := n0_; have BK233 := n1_; have GW233 := n2_; have GE233 := n3_; clear n0_ n1_ n2_ n3_; clear hb hbox hg))
 repeat (go_quiet (first | ((with_reducible refine gate_dst (N := 3) rfl ?_); refine zx 3 #[.int .i64 a1_0, .int .i64 a1_1] 43 ?_; intro gb233 hg w3 hbox hb; have n0_ := aM (below_step zb hb); have n1_ := aM (hbox); have n2_ := aM ((ze : w.heap.size ≤ gb233)); have n3_ := aM ((ze : w.heap.size ≤ gb233)); clear HB; have HB := n0_; have BK233 := n1_; have GW233 := n2_; have GE233 := n3_; clear n0_ n1_ n2_ n3_; clear hb hbox hg)); try go_wp2_with (first | ((with_reducible refine gate_dst (N := 3) rfl ?_); refine zx 3 #[.int .i64 a1_0, .int .i64 a1_1] 43 ?_; intro gb233 hg w3 hbox hb; have n0_ := aM (below_step zb hb); have n1_ := aM (hbox); have n2_ := aM ((ze : w.heap.size ≤ gb233)); have n3_ := aM ((ze : w.heap.size ≤ gb233)); clear HB; have HB := n0_; have BK233 := n1_; have GW233 := n2_; have GE233 := n3_; clear n0_ n1_ n2_ n3_; clear hb hbox hg)))
 go_loopg [5] k (fun kq v5 w' => ∃ (x5_1 : Int), v5 = .int .i64 x5_1 ∧ Aside0 (spec_l02Index.l0 kq l0 x5_1 a1_0 a1_1 = some r) ∧ Aside0 (kq ≤ k) ∧ Aside0 (w'.heap[gb233]? = some (.cells #[.int .i64 a1_0, .int .i64 a1_1] 43 (0, 0))) ∧ Aside0 (Below w.heap.size w w'))
 case atStart => exact ⟨(0), zr, H', ⟨Nat.le_refl _⟩, ⟨mB_ BK233.out⟩, ⟨zs GE233.out⟩⟩
 case round =>
  clear H'
  try clear c2
  try clear p2
  obtain ⟨x5_1, rfl, HA, HK1, BK233, HB⟩ := hrel
  cases gk with
  | zero => exact absurd HA.out (by simp [spec_l02Index.l0])
  | succ k1 =>
   have H := HA.out
   clear HA
   simp only [spec_l02Index.l0] at H
   by_cases c4 : x5_1 < (l0.length : Int)
   rotate_left
   ·rw [if_neg c4] at H
    have c4b0 : decide (x5_1 < (l0.length : Int)) = false := decide_eq_false c4
    clear c4
    obtain rfl := Option.some.inj H
    go_wp2
    repeat (go_quiet (fail); try go_wp2)
    go_ret
    exact ⟨zw, zs GE233.out⟩
   rw [if_pos c4] at H
   have c4b0 : decide (x5_1 < (l0.length : Int)) = true := decide_eq_true c4
   clear c4
   by_cases c5 : 0 ≤ x5_1
   rotate_left
   ·rw [if_neg c5] at H
    exact absurd H (by simp)
   rw [if_pos c5] at H
   have c5b0 : decide (0 ≤ x5_1) = true := decide_eq_true c5
   clear c5
   by_cases c6 : (((rd_T43 l0 x5_1).f0) == a1_0 && (((rd_T43 l0 x5_1).f1) == a1_1)) = true
   ·rw [if_pos c6] at H
    have c6b0 : (((rd_T43 l0 x5_1).f0) == a1_0 && (((rd_T43 l0 x5_1).f1) == a1_1)) = true := c6
    (try (have c6b1 : decide (((rd_T43 l0 x5_1).f0) = a1_0 && (((rd_T43 l0 x5_1).f1) == a1_1)) = true := by simpa using c6))
    (try (have c6b2 : (((rd_T43 l0 x5_1).f0) == a1_0 && (((rd_T43 l0 x5_1).f1) == a1_1)) = true := by simpa using c6))
    clear c6
    obtain rfl := Option.some.inj H
    have p234 : 0 ≤ (x5_1 : Int) := of_decide_eq_true za
    have q234 : x5_1 < (l0.length : Int) := of_decide_eq_true za
    obtain ⟨ad234, e234, hx234_0, hx234_1⟩ := at_T43 HR0.out x5_1 p234 q234
    cases e234
    replace hx234_0 := zk HB.out hx234_0
    replace hx234_1 := zk HB.out hx234_1
    replace p234 := eq_true p234
    replace q234 := eq_true q234
    have hcz7_0 : wr.cell? ⟨gb233, 0, none⟩ = some (.int .i64 a1_0) := (blk_cell BK233.out 0).trans rfl
    have hcz7_1 : wr.cell? ⟨gb233, 1, none⟩ = some (.int .i64 a1_1) := (blk_cell BK233.out 1).trans rfl
    have hfz7_0 := blk_frozen BK233.out 0
    have hfz7_1 := blk_frozen BK233.out 1
    go_wp2
    repeat (go_quiet (fail); try go_wp2)
    go_ret
    exact ⟨zw, zs GE233.out⟩
   rw [if_neg c6] at H
   have c6b0 : (((rd_T43 l0 x5_1).f0) == a1_0 && (((rd_T43 l0 x5_1).f1) == a1_1)) = false := by simpa using c6
   (try (have c6b1 : decide (((rd_T43 l0 x5_1).f0) = a1_0 && (((rd_T43 l0 x5_1).f1) == a1_1)) = false := by simpa using c6))
   (try (have c6b2 : (((rd_T43 l0 x5_1).f0) == a1_0 && (((rd_T43 l0 x5_1).f1) == a1_1)) = false := by simpa using c6))
   (try (have c6b3 : ¬ (((rd_T43 l0 x5_1).f0) = a1_0 && (((rd_T43 l0 x5_1).f1) == a1_1)) := by simpa using c6))
   clear c6
   have H' := aM H
   clear H
   have p234 : 0 ≤ (x5_1 : Int) := of_decide_eq_true za
   have q234 : x5_1 < (l0.length : Int) := of_decide_eq_true za
   obtain ⟨ad234, e234, hx234_0, hx234_1⟩ := at_T43 HR0.out x5_1 p234 q234
   cases e234
   replace hx234_0 := zk HB.out hx234_0
   replace hx234_1 := zk HB.out hx234_1
   replace p234 := eq_true p234
   replace q234 := eq_true q234
   have hcz8_0 : wr.cell? ⟨gb233, 0, none⟩ = some (.int .i64 a1_0) := (blk_cell BK233.out 0).trans rfl
   have hcz8_1 : wr.cell? ⟨gb233, 1, none⟩ = some (.int .i64 a1_1) := (blk_cell BK233.out 1).trans rfl
   have hfz8_0 := blk_frozen BK233.out 0
   have hfz8_1 := blk_frozen BK233.out 1
   go_wp2
   repeat (go_quiet (fail); try go_wp2)
   go_roundg k1
   case measure => have := HK1.out; omega
   case rel => exact ⟨(wrap64 (x5_1 + 1)), zr, H', ⟨by have := HK1.out; omega⟩, ⟨mB_ BK233.out⟩, ⟨zs GE233.out⟩⟩
end Go.Proofs.Ytibbjiehblpmfaa.F
end
section
namespace Go.Proofs.Ytibbjiehblpmfaa.F
open Go.RowKit Go.Proofs.YtibbjiehblpmfaaW.PrintWords Go.Proofs.YtibbjiehblpmfaaW.PrintLast Go.Proofs.YtibbjiehblpmfaaW.PrintMore
attribute [local go_sem] max2_int min2_int max_two min_two max_three min_three max_four min_four
set_option linter.unusedVariables false
set_option linter.unusedSimpArgs false
def spec_l03Add.l0 : Nat → List (List (S43)) → List (S43) → List (List (S43)) → Bool → Int → Option ((List (List (S43))))
 | 0, _, _, _, _, _ => none
 | k + 1, x0, x1, x5, x6, x7 => if x7 < (x0.length : Int) then (if 0 ≤ x7 then ((spec_CompareShapes.f k x1 (rd_L2 x0 x7)).bind fun t242 => (if t242 = 0 then (some x0) else (if t242 < 0 then (if x6 = true then (if x5.length < 5864062014805 then (spec_l03Add.l0 k x0 x1 (x5 ++ [rd_L2 x0 x7]) x6 (wrap64 (x7 + 1))) else (none)) else (if x5.length < 5864062014805 then ((some (x5 ++ [x1] : List (List (S43)))).bind fun y247 => (if y247.length < 5864062014805 then (spec_l03Add.l0 k x0 x1 (y247 ++ [rd_L2 x0 x7]) true (wrap64 (x7 + 1))) else (none))) else (none))) else (if x5.length < 5864062014805 then (spec_l03Add.l0 k x0 x1 (x5 ++ [rd_L2 x0 x7]) x6 (wrap64 (x7 + 1))) else (none))))) else (none)) else (if x6 = true then (some x5) else (if x5.length < 5864062014805 then (some (x5 ++ [x1])) else (none)))
end Go.Proofs.Ytibbjiehblpmfaa.F
end
