/- The row of FnExactIsSolid, with what it needs: text 6 of 8. -/
import Derived.Test.YtabdmdkoffpppaaKIS4
set_option maxHeartbeats 8000000
set_option maxRecDepth 100000
section
namespace Go.Proofs.Ytabdmdkoffpppaa.F
open Go.RowKit Go.Proofs.YtabdmdkoffpppaaW.PrintWords Go.Proofs.YtabdmdkoffpppaaW.PrintLast Go.Proofs.YtabdmdkoffpppaaW.PrintMore
attribute [local go_sem] max2_int min2_int max_two min_two max_three min_three max_four min_four
set_option linter.unusedVariables false
set_option linter.unusedSimpArgs false
theorem spec_l09Connected.calls (k : Nat) (A0 : Option Addr) (c0 : Nat) (l0 : List (S57)) (r : Bool) (w : World) (hr0 : Kd.C k57 w A0 l0.length l0) (hc0 : l0.length ≤ c0) (h : spec_l09Connected.f k l0 = some r) :
  Calls Try.prog 85 #[.slice A0 l0.length c0] w fun e w' => e = .returned (.bool r) ∧ Below w.heap.size w w' := by
 have hu57 := Try.underlying57
 have HR0 := aM hr0
 have HC0 := aM hc0
 clear hr0 hc0
 have HB := aM (Below.refl w.heap.size w)
 have H : (if 0 < (l0.length : Int) then (spec_l09Connected.l0 k l0 (([(⟨(rd_T57 l0 0).f0, (rd_T57 l0 0).f1, (rd_T57 l0 0).f2⟩ : S57)] : List (S57))) 0) else (none)) = some r := h
 clear h
 by_cases c2 : 0 < (l0.length : Int)
 rotate_left
 ·rw [if_neg c2] at H
  exact absurd H (by simp)
 rw [if_pos c2] at H
 have c2b0 : decide (0 < (l0.length : Int)) = true := decide_eq_true c2
 have c2b1 : decide (0 < l0.length) = true := decide_eq_true (by omega)
 clear c2
 obtain ⟨y260, hy260⟩ : ∃ y_ : List (S57), y_ = (([(⟨(rd_T57 l0 0).f0, (rd_T57 l0 0).f1, (rd_T57 l0 0).f2⟩ : S57)] : List (S57))) := ⟨_, rfl⟩
 replace H : (spec_l09Connected.l0 k l0 y260 0) = some r := zy H hy260
 have Ny260 := aM hy260
 clear hy260
 have H' := aM H
 clear H
 have p259 : 0 ≤ (0 : Int) := (by omega)
 have q259 : 0 < (l0.length : Int) := of_decide_eq_true za
 obtain ⟨ad259, e259, hx259_0, hx259_1, hx259_2⟩ := at_T57 HR0.out 0 p259 q259
 cases e259
 have qi259 : (0 < l0.length) = True := eq_true (by omega)
 (try rw [show ((0 : Int)).toNat = 0 from rfl] at hx259_0)
 (try rw [show 0 * 3 = 0 from rfl] at hx259_0)
 (try rw [Addr.add_zero'] at hx259_0)
 (try rw [show ((0 : Int)).toNat = 0 from rfl] at hx259_1)
 (try rw [show 0 * 3 = 0 from rfl] at hx259_1)
 (try rw [Addr.add_zero'] at hx259_1)
 (try rw [show ((0 : Int)).toNat = 0 from rfl] at hx259_2)
 (try rw [show 0 * 3 = 0 from rfl] at hx259_2)
 (try rw [Addr.add_zero'] at hx259_2)
 replace p259 := eq_true p259
 replace q259 := eq_true q259
 go_enter Try.func85, Try.ntmps85
 go_wp2_with (first | ((with_reducible refine gate_dst (N := 10) rfl ?_); refine Kd.R_lit k57 _ 57 ?hg (N := 10) ?hd (xs := ([(⟨(rd_T57 l0 0).f0, (rd_T57 l0 0).f1, (rd_T57 l0 0).f2⟩ : S57)] : List (S57))) (inner := [.int .i64 ((rd_T57 l0 0).f0), .int .i64 ((rd_T57 l0 0).f1), .int .i64 ((rd_T57 l0 0).f2)]) (ok := fun _ => True) (okp := fun _ => True) ?hr ?hp (fun _ hk => hk) trivial (Below.refl _ _) (Nat.le_refl _) (by simp) ?_; (case hd => rfl); (case hg => rfl); (case hr => first | (go_simp; done) | (go_simp; rfl)); (case hp => exact (Reps.c3 (show Kd.M k57 _ _ _ (⟨(rd_T57 l0 0).f0, (rd_T57 l0 0).f1, (rd_T57 l0 0).f2⟩ : S57) [.int .i64 ((rd_T57 l0 0).f0), .int .i64 ((rd_T57 l0 0).f1), .int .i64 ((rd_T57 l0 0).f2)] from (k57_mkM _ _ _ (⟨(rd_T57 l0 0).f0, (rd_T57 l0 0).f1, (rd_T57 l0 0).f2⟩ : S57) )) (Reps.none _ _))); intro v261 w3 ho4 hb hg_ hnew_; clear hg_ hnew_; (first | rw [← Ny260.out] at ho4 | (simp only [Int.reduceToNat] at ho4; rw [← Ny260.out] at ho4)); have n0_ := aM (Kd.R_lower ho4 (below_size zb)); have n1_ := aM (below_step zb hb); clear HB; have HO262 := n0_; have HB := n1_; clear n0_ n1_; clear hb ho4))
 go_loopg [3, 4] k (fun kq v3 v4 w' => ∃ (x3_1 : List (S57)) (x4_1 : Int), v4 = .int .i64 x4_1 ∧ Aside0 (spec_l09Connected.l0 kq l0 x3_1 x4_1 = some r) ∧ Aside0 (kq ≤ k) ∧ Aside0 (Kd.R k57 57 w' w.heap.size (fun _ => True) v3 x3_1) ∧ Aside0 (Below w.heap.size w w'))
 case atStart => exact ⟨(y260), (0), zr, H', ⟨Nat.le_refl _⟩, ⟨mR_ HO262.out⟩, ⟨zb⟩⟩
 case round =>
  clear H'
  try clear c2
  try clear c2b0
  try clear c2b1
  try clear p2
  try clear q2
  try clear hx2
  try clear qi2
  try clear c3
  try clear hx259_0
  try clear hx259_1
  try clear hx259_2
  try clear p259
  try clear q259
  obtain ⟨x3_1, x4_1, rfl, HA, HK1, HO_3, HB⟩ := hrel
  cases gk with
  | zero => exact absurd HA.out (by simp [spec_l09Connected.l0])
  | succ k1 =>
   have H := HA.out
   clear HA
   simp only [spec_l09Connected.l0] at H
   by_cases c5 : x4_1 < (x3_1.length : Int)
   rotate_left
   ·rw [if_neg c5] at H
    have c5b0 : decide (x4_1 < (x3_1.length : Int)) = false := decide_eq_false c5
    clear c5
    obtain rfl := Option.some.inj H
    obtain ⟨Ao61, co61, eo61⟩ := Kd.R_slice HO_3.out
    subst eo61
    go_wp2
    go_ret
    exact ⟨zw, zb⟩
   rw [if_pos c5] at H
   have c5b0 : decide (x4_1 < (x3_1.length : Int)) = true := decide_eq_true c5
   clear c5
   have H' := aM H
   clear H
   obtain ⟨Ao6, co6, eo6⟩ := Kd.R_slice HO_3.out
   subst eo6
   go_wp2
   go_loopg [3, 5] k1 (fun kq v3 v5 w' => ∃ (x3_2 : List (S57)) (x5_2 : Int), v5 = .int .i64 x5_2 ∧ Aside0 (spec_l09Connected.l1 kq l0 x3_2 x4_1 x5_2 = some r) ∧ Aside0 (kq ≤ k1) ∧ Aside0 (Kd.R k57 57 w' w.heap.size (fun _ => True) v3 x3_2) ∧ Aside0 (Below w.heap.size w w'))
   case atStart => exact ⟨(x3_1), (0), zr, H', ⟨Nat.le_refl _⟩, ⟨mR_ HO_3.out⟩, ⟨zb⟩⟩
   case round =>
    clear H'
    try clear c2
    try clear c2b0
    try clear c2b1
    try clear p2
    try clear q2
    try clear hx2
    try clear qi2
    try clear c3
    try clear c5
    try clear c5b0
    try clear hx259_0
    try clear hx259_1
    try clear hx259_2
    try clear p2
    try clear p259
    try clear q2
    try clear q259
    obtain ⟨x3_2, x5_2, rfl, HA, HK2, HO_3, HB⟩ := hrel
    cases gk with
    | zero => exact absurd HA.out (by simp [spec_l09Connected.l1])
    | succ k2 =>
     have H := HA.out
     clear HA
     simp only [spec_l09Connected.l1] at H
     by_cases c7 : x5_2 < 6
     rotate_left
     ·rw [if_neg c7] at H
      have c7b0 : decide (x5_2 < 6) = false := decide_eq_false c7
      clear c7
      have H' := aM H
      clear H
      go_wp2
      go_roundg k2
      case measure => have := HK1.out; have := HK2.out; omega
      case rel => exact ⟨(x3_2), (wrap64 (x4_1 + 1)), zr, H', ⟨by have := HK1.out; have := HK2.out; omega⟩, ⟨mR_ HO_3.out⟩, ⟨zb⟩⟩
     rw [if_pos c7] at H
     have c7b0 : decide (x5_2 < 6) = true := decide_eq_true c7
     clear c7
     by_cases c8 : 0 ≤ x4_1
     rotate_left
     ·rw [if_neg c8] at H
      exact absurd H (by simp)
     rw [if_pos c8] at H
     have c8b0 : decide (0 ≤ x4_1) = true := decide_eq_true c8
     clear c8
     by_cases c9 : x4_1 < (x3_2.length : Int)
     rotate_left
     ·rw [if_neg c9] at H
      exact absurd H (by simp)
     rw [if_pos c9] at H
     have c9b0 : decide (x4_1 < (x3_2.length : Int)) = true := decide_eq_true c9
     clear c9
     replace H := Option.bind_eq_some_iff.mp H
     obtain ⟨t264, A100, H⟩ := H
     replace H : (if 0 ≤ x5_2 then (if x5_2 < (t264.length : Int) then ((spec_l09Add.f ((rd_T57 x3_2 x4_1).f0) ((rd_T57 x3_2 x4_1).f1) ((rd_T57 x3_2 x4_1).f2) ((rd_T57 t264 x5_2).f0) ((rd_T57 t264 x5_2).f1) ((rd_T57 t264 x5_2).f2)).bind fun bt268 => ((spec_l09Index.f k2 l0 bt268.1 bt268.2.1 bt268.2.2).bind fun t272 => (if t272 ≥ 0 then ((spec_l09Index.f k2 x3_2 bt268.1 bt268.2.1 bt268.2.2).bind fun t273 => (if t273 < 0 then (if x3_2.length < 5864062014805 then (spec_l09Connected.l1 k2 l0 (x3_2 ++ [(⟨bt268.1, bt268.2.1, bt268.2.2⟩ : S57)]) x4_1 (wrap64 (x5_2 + 1))) else (none)) else (spec_l09Connected.l1 k2 l0 x3_2 x4_1 (wrap64 (x5_2 + 1))))) else (spec_l09Connected.l1 k2 l0 x3_2 x4_1 (wrap64 (x5_2 + 1)))))) else (none)) else (none)) = some r := H
     have A10 := aM A100
     clear A100
     by_cases c11 : 0 ≤ x5_2
     rotate_left
     ·rw [if_neg c11] at H
      exact absurd H (by simp)
     rw [if_pos c11] at H
     have c11b0 : decide (0 ≤ x5_2) = true := decide_eq_true c11
     clear c11
     by_cases c12 : x5_2 < (t264.length : Int)
     rotate_left
     ·rw [if_neg c12] at H
      exact absurd H (by simp)
     rw [if_pos c12] at H
     have c12b0 : decide (x5_2 < (t264.length : Int)) = true := decide_eq_true c12
     clear c12
     replace H := Option.bind_eq_some_iff.mp H
     obtain ⟨⟨t268, t269, t270⟩, A130, H⟩ := H
     replace H : ((spec_l09Index.f k2 l0 t268 t269 t270).bind fun t272 => (if t272 ≥ 0 then ((spec_l09Index.f k2 x3_2 t268 t269 t270).bind fun t273 => (if t273 < 0 then (if x3_2.length < 5864062014805 then (spec_l09Connected.l1 k2 l0 (x3_2 ++ [(⟨t268, t269, t270⟩ : S57)]) x4_1 (wrap64 (x5_2 + 1))) else (none)) else (spec_l09Connected.l1 k2 l0 x3_2 x4_1 (wrap64 (x5_2 + 1))))) else (spec_l09Connected.l1 k2 l0 x3_2 x4_1 (wrap64 (x5_2 + 1))))) = some r := H
     have A13 := aM A130
     clear A130
     replace H := Option.bind_eq_some_iff.mp H
     obtain ⟨t272, A140, H⟩ := H
     replace H : (if t272 ≥ 0 then ((spec_l09Index.f k2 x3_2 t268 t269 t270).bind fun t273 => (if t273 < 0 then (if x3_2.length < 5864062014805 then (spec_l09Connected.l1 k2 l0 (x3_2 ++ [(⟨t268, t269, t270⟩ : S57)]) x4_1 (wrap64 (x5_2 + 1))) else (none)) else (spec_l09Connected.l1 k2 l0 x3_2 x4_1 (wrap64 (x5_2 + 1))))) else (spec_l09Connected.l1 k2 l0 x3_2 x4_1 (wrap64 (x5_2 + 1)))) = some r := H
     have A14 := aM A140
     clear A140
     by_cases c15 : t272 ≥ 0
     rotate_left
     ·rw [if_neg c15] at H
      have c15b0 : decide (0 ≤ t272) = false := decide_eq_false c15
      clear c15
      have H' := aM H
      clear H
      try go_wp2
      have n0_ := aM (Kd.R_drew HO_3.out)
      have n1_ := aM (below_drew1 HB.out)
      clear HO_3
      clear HB
      have HO_3 := n0_
      have HB := n1_
      clear n0_ n1_
      obtain ⟨Ao50, co50, eo50⟩ := Kd.R_slice HO_3.out
      (first | subst eo50 | (injection eo50 with f1_ f2_ f3_; have f4_ := f1_.symm; have f5_ := f3_.symm; clear f1_ f2_ f3_; subst f4_; subst f5_))
      have p263 : 0 ≤ (x4_1 : Int) := of_decide_eq_true za
      have q263 : x4_1 < (x3_2.length : Int) := of_decide_eq_true za
      obtain ⟨ad263, e263, hx263_0, hx263_1, hx263_2⟩ := at_T57 (Kd.R_reads' HO_3.out).2.2 x4_1 p263 q263
      cases e263
      replace p263 := eq_true p263
      replace q263 := eq_true q263
      refine start_ (n := 11) (S := fun w' => w'.cell? (ad263.add ((x4_1).toNat * 3)) = some (.int .i64 ((rd_T57 x3_2 x4_1).f0)) ∧ w'.cell? ⟨(ad263.add ((x4_1).toNat * 3)).block, (ad263.add ((x4_1).toNat * 3)).off + 1, none⟩ = some (.int .i64 ((rd_T57 x3_2 x4_1).f1)) ∧ w'.cell? ⟨(ad263.add ((x4_1).toNat * 3)).block, (ad263.add ((x4_1).toNat * 3)).off + 2, none⟩ = some (.int .i64 ((rd_T57 x3_2 x4_1).f2))) (ds := []) #[false, false, false, false, false, false, false, false, false, false, false] (by kernel_rfl) rfl rfl ⟨hx263_0, hx263_1, hx263_2⟩ (fun hHeld => ?_); refine with_tabW spec_l09Connected.tab8 spec_l09Connected.bits8 (fun HT_ HW_ => ?_)
      generalize wr.drew = w49 at HO_3 HB hx263_0 hx263_1 hx263_2 hHeld ⊢
      refine pure_ (i := 0) (N := some 21) (v := ?_) (a' := ?_) #[true, false, false, false, false, false, false, false, false, false, false] rfl rfl zz (fun _ _ _ h => h) (Or.inl ⟨by rfl, ?_⟩) ?_ ?_
      rotate_left
      ·intro w'
       go_simp
       with_reducible rfl
      rotate_left
      ·simp only [Act.put, xA, xB, xC, i64_w, i32_w]
       rfl
      refine pure_ (i := 1) (N := some 22) (v := ?_) (a' := ?_) #[true, true, false, false, false, false, false, false, false, false, false] rfl rfl zz (fun _ _ _ h => h) (Or.inl ⟨by rfl, ?_⟩) ?_ ?_
      rotate_left
      ·intro w'
       go_simp
       with_reducible rfl
      rotate_left
      ·simp only [Act.put, xA, xB, xC, i64_w, i32_w]
       rfl
      refine pure_ (i := 2) (N := some 23) (v := ?_) (a' := ?_) #[true, true, true, false, false, false, false, false, false, false, false] rfl rfl zz (fun _ _ _ h => h) (Or.inl ⟨by rfl, ?_⟩) ?_ ?_
      rotate_left
      ·intro w'
       go_simp
       with_reducible rfl
      rotate_left
      ·simp only [Act.put, xA, xB, xC, i64_w, i32_w]
       rfl
      refine pure_ (i := 5) (N := some 26) (v := ?_) (a' := ?_) #[true, true, true, false, false, true, false, false, false, false, false] rfl rfl zz (fun _ _ _ h => h) (Or.inl ⟨by rfl, ?_⟩) ?_ ?_
      rotate_left
      ·intro w'
       go_simp
       with_reducible rfl
      rotate_left
      ·simp only [Act.put, xA, xB, xC, i64_w, i32_w]
       rfl
      refine take_ (i := 3) (N := some 24) (v := ?_) (a' := ?_) #[true, true, true, true, false, true, false, false, false, false, false] rfl rfl (take_ofW HT_.out HW_.out (by kernel_rfl)) (fun _ _ _ h => h) (Or.inl ⟨by rfl, ?_⟩) hHeld ?_ ?_
      rotate_left
      ·rintro w' ⟨s0, s1, s2⟩
       go_simp
       with_reducible rfl
      rotate_left
      ·simp only [Act.put, xA, xB, xC, i64_w, i32_w]
       rfl
      refine join9_ (σ := (Value × Nat) × Addr) (fun s_ w' => w'.cell? (ad263.add ((x4_1).toNat * 3)) = some (.int .i64 ((rd_T57 x3_2 x4_1).f0)) ∧ w'.cell? ⟨(ad263.add ((x4_1).toNat * 3)).block, (ad263.add ((x4_1).toNat * 3)).off + 1, none⟩ = some (.int .i64 ((rd_T57 x3_2 x4_1).f1)) ∧ w'.cell? ⟨(ad263.add ((x4_1).toNat * 3)).block, (ad263.add ((x4_1).toNat * 3)).off + 2, none⟩ = some (.int .i64 ((rd_T57 x3_2 x4_1).f2)) ∧ w'.cell? (s_.2.add ((x5_2).toNat * 3)) = some (.int .i64 ((rd_T57 t264 x5_2).f0)) ∧ w'.cell? ⟨(s_.2.add ((x5_2).toNat * 3)).block, (s_.2.add ((x5_2).toNat * 3)).off + 1, none⟩ = some (.int .i64 ((rd_T57 t264 x5_2).f1)) ∧ w'.cell? ⟨(s_.2.add ((x5_2).toNat * 3)).block, (s_.2.add ((x5_2).toNat * 3)).off + 2, none⟩ = some (.int .i64 ((rd_T57 t264 x5_2).f2))) 1 #[true, true, true, true, true, true, true, true, true, true, false] (fun s_ => [(25, s_.1.1), (29, .agg #[.int .i64 t268, .int .i64 t269, .int .i64 t270]), (6, .pointer (some ⟨s_.1.2, 0, none⟩)), (27, .pointer (some (s_.2.add ((x5_2).toNat * 3)))), (28, .agg #[.int .i64 ((rd_T57 t264 x5_2).f0), .int .i64 ((rd_T57 t264 x5_2).f1), .int .i64 ((rd_T57 t264 x5_2).f2)])]) (fun s_ w' => (w'.cell? (ad263.add ((x4_1).toNat * 3)) = some (.int .i64 ((rd_T57 x3_2 x4_1).f0)) ∧ w'.cell? ⟨(ad263.add ((x4_1).toNat * 3)).block, (ad263.add ((x4_1).toNat * 3)).off + 1, none⟩ = some (.int .i64 ((rd_T57 x3_2 x4_1).f1)) ∧ w'.cell? ⟨(ad263.add ((x4_1).toNat * 3)).block, (ad263.add ((x4_1).toNat * 3)).off + 2, none⟩ = some (.int .i64 ((rd_T57 x3_2 x4_1).f2)) ∧ w'.cell? (s_.2.add ((x5_2).toNat * 3)) = some (.int .i64 ((rd_T57 t264 x5_2).f0)) ∧ w'.cell? ⟨(s_.2.add ((x5_2).toNat * 3)).block, (s_.2.add ((x5_2).toNat * 3)).off + 1, none⟩ = some (.int .i64 ((rd_T57 t264 x5_2).f1)) ∧ w'.cell? ⟨(s_.2.add ((x5_2).toNat * 3)).block, (s_.2.add ((x5_2).toNat * 3)).off + 2, none⟩ = some (.int .i64 ((rd_T57 t264 x5_2).f2))) ∧ (Kd.R k57 57 w' w.heap.size (fun k_ => some k_ ≠ (.slice (some ad263) x3_2.length co50 : Value).ownBlock ∧ k_ ≠ s_.1.2) s_.1.1 t264) ∧ (Kd.R k57 57 w' w.heap.size (fun k_ => some k_ ≠ (s_.1.1 : Value).ownBlock ∧ k_ ≠ s_.1.2) (.slice (some ad263) x3_2.length co50) x3_2) ∧ (w'.heap[s_.1.2]? = some (.cells #[.int .i64 0, .int .i64 0, .int .i64 0] 57 (0, 0))) ∧ (w.heap.size ≤ s_.1.2) ∧ (w.heap.size ≤ s_.1.2) ∧ (Below w.heap.size w w') ∧ (∃ c9_, s_.1.1 = Value.slice (some s_.2) t264.length c9_)) ?_ ?_
      rotate_left
      ·intro hCont
       refine two_ (i := 4) (j := 9) (Ni := some 25) (Nj := some 6) #[true, true, true, true, true, true, false, false, false, false, false] #[true, true, true, true, false, true, false, false, false, true, false] rfl rfl rfl rfl (two_of HT_.out (by kernel_rfl)) (by decide) (by decide) (fun K hK => ?_) (fun K hK => ?_)
       ·skip
        refine goes_ Try.func79 (by kernel_rfl) rfl #[] (by rfl) rfl rfl zm ?_
        with_reducible refine (spec_l09Steps.calls  t264 _ A10.out).mono ?_
        rintro e w51 ⟨v265, rfl, ho0, hb⟩
        have HS0_ := (hb.cell (World.block_lt_of_cell? _ _ (hHeld.1))).trans (hHeld.1)
        have HS1_ := (hb.cell (World.block_lt_of_cell? _ _ (hHeld.2.1))).trans (hHeld.2.1)
        have HS2_ := (hb.cell (World.block_lt_of_cell? _ _ (hHeld.2.2))).trans (hHeld.2.2)
        refine ⟨_, rfl, ?_⟩
        have n0_ := aM (Kd.R_elder' (mR_ HO_3.out) (Kd.R_base ho0) hb)
        have n1_ := aM (Kd.R_lower (Kd.R_new' ho0 (Kd.R_lt (mR_ HO_3.out))) (below_size zb))
        have n2_ := aM (below_step zb hb)
        clear HO_3
        clear HB
        have HO_3 := n0_
        have HO266 := n1_
        have HB := n2_
        clear n0_ n1_ n2_
        (try clear hb)
        (try clear hb2)
        (try clear hk)
        (try clear hi)
        (try clear ho0)
        obtain ⟨Ao52, co52, eo52⟩ := Kd.R_slice HO266.out
        (first | subst eo52 | (injection eo52 with f1_ f2_ f3_; have f4_ := f1_.symm; have f5_ := f3_.symm; clear f1_ f2_ f3_; subst f4_; subst f5_))
        have p267 : 0 ≤ (x5_2 : Int) := of_decide_eq_true za
        have q267 : x5_2 < (t264.length : Int) := of_decide_eq_true za
        obtain ⟨ad267, e267, hx267_0, hx267_1, hx267_2⟩ := at_T57 (Kd.R_reads' HO266.out).2.2 x5_2 p267 q267
        cases e267
        replace p267 := eq_true p267
        replace q267 := eq_true q267
        refine hK.out _ _ ⟨HS0_, HS1_, HS2_⟩ (fun hHeld => ?_)
        clear hK K
        refine more_ (S' := fun w' => w'.cell? (ad263.add ((x4_1).toNat * 3)) = some (.int .i64 ((rd_T57 x3_2 x4_1).f0)) ∧ w'.cell? ⟨(ad263.add ((x4_1).toNat * 3)).block, (ad263.add ((x4_1).toNat * 3)).off + 1, none⟩ = some (.int .i64 ((rd_T57 x3_2 x4_1).f1)) ∧ w'.cell? ⟨(ad263.add ((x4_1).toNat * 3)).block, (ad263.add ((x4_1).toNat * 3)).off + 2, none⟩ = some (.int .i64 ((rd_T57 x3_2 x4_1).f2)) ∧ w'.cell? (ad267.add ((x5_2).toNat * 3)) = some (.int .i64 ((rd_T57 t264 x5_2).f0)) ∧ w'.cell? ⟨(ad267.add ((x5_2).toNat * 3)).block, (ad267.add ((x5_2).toNat * 3)).off + 1, none⟩ = some (.int .i64 ((rd_T57 t264 x5_2).f1)) ∧ w'.cell? ⟨(ad267.add ((x5_2).toNat * 3)).block, (ad267.add ((x5_2).toNat * 3)).off + 2, none⟩ = some (.int .i64 ((rd_T57 t264 x5_2).f2))) (fun _ h_ => ⟨h_.1, h_.2.1, h_.2.2.1⟩) ⟨hHeld.1, hHeld.2.1, hHeld.2.2, hx267_0, hx267_1, hx267_2⟩ (fun hHeld => ?_)
        refine norm_ (a' := ?_) ?_ ?_
        rotate_left
        ·show Act.put _ (some 25) _ = _
         simp only [Act.put, xA, xB, xC, i64_w, i32_w]
         rfl
        refine pure_ (i := 6) (N := some 27) (v := ?_) (a' := ?_) #[true, true, true, true, true, true, true, false, false, false, false] rfl rfl zz (fun _ _ _ h => h) (Or.inl ⟨by rfl, ?_⟩) ?_ ?_
        rotate_left
        ·intro w'
         go_simp
         with_reducible rfl
        rotate_left
        ·simp only [Act.put, xA, xB, xC, i64_w, i32_w]
         rfl
        refine take_ (i := 7) (N := some 28) (v := ?_) (a' := ?_) #[true, true, true, true, true, true, true, true, false, false, false] rfl rfl (take_ofW HT_.out HW_.out (by kernel_rfl)) (fun _ _ _ h => h) (Or.inl ⟨by rfl, ?_⟩) hHeld ?_ ?_
        rotate_left
        ·rintro w' ⟨s0, s1, s2, s3, s4, s5⟩
         go_simp
         with_reducible rfl
        rotate_left
        ·simp only [Act.put, xA, xB, xC, i64_w, i32_w]
         rfl
        refine two_ (i := 8) (j := 9) (Ni := some 29) (Nj := some 6) #[true, true, true, true, true, true, true, true, true, false, false] #[true, true, true, true, true, true, true, true, false, true, false] rfl rfl rfl rfl (two_of HT_.out (by kernel_rfl)) (by decide) (by decide) (fun K hK => ?_) (fun K hK => ?_)
        ·skip
         refine goes_ Try.func78 (by kernel_rfl) rfl #[.agg #[.int .i64 ((rd_T57 x3_2 x4_1).f0), .int .i64 ((rd_T57 x3_2 x4_1).f1), .int .i64 ((rd_T57 x3_2 x4_1).f2)], .agg #[.int .i64 ((rd_T57 t264 x5_2).f0), .int .i64 ((rd_T57 t264 x5_2).f1), .int .i64 ((rd_T57 t264 x5_2).f2)]] (by rfl) rfl rfl zm ?_
         with_reducible refine (spec_l09Add.calls ((rd_T57 x3_2 x4_1).f0) ((rd_T57 x3_2 x4_1).f1) ((rd_T57 x3_2 x4_1).f2) ((rd_T57 t264 x5_2).f0) ((rd_T57 t264 x5_2).f1) ((rd_T57 t264 x5_2).f2) t268 t269 t270 _ A13.out).mono ?_
         rintro e w53 ⟨rfl, hb⟩
         have HS0_ := (hb.cell (World.block_lt_of_cell? _ _ (hHeld.1))).trans (hHeld.1)
         have HS1_ := (hb.cell (World.block_lt_of_cell? _ _ (hHeld.2.1))).trans (hHeld.2.1)
         have HS2_ := (hb.cell (World.block_lt_of_cell? _ _ (hHeld.2.2.1))).trans (hHeld.2.2.1)
         have HS3_ := (hb.cell (World.block_lt_of_cell? _ _ (hHeld.2.2.2.1))).trans (hHeld.2.2.2.1)
         have HS4_ := (hb.cell (World.block_lt_of_cell? _ _ (hHeld.2.2.2.2.1))).trans (hHeld.2.2.2.2.1)
         have HS5_ := (hb.cell (World.block_lt_of_cell? _ _ (hHeld.2.2.2.2.2))).trans (hHeld.2.2.2.2.2)
         refine ⟨_, rfl, ?_⟩
         have n0_ := aM (Kd.R_below (mR_ HO_3.out) hb)
         have n1_ := aM (Kd.R_below (mR_ HO266.out) hb)
         have n2_ := aM (below_step zb hb)
         clear HO_3
         clear HO266
         clear HB
         have HO_3 := n0_
         have HO266 := n1_
         have HB := n2_
         clear n0_ n1_ n2_
         (try clear hb)
         (try clear hb2)
         (try clear hk)
         (try clear hi)
         refine hK.out _ _ ⟨HS0_, HS1_, HS2_, HS3_, HS4_, HS5_⟩ (fun hHeld => ?_)
         clear hK K
         refine norm_ (a' := ?_) ?_ ?_
         rotate_left
         ·show Act.put _ (some 29) _ = _
          simp only [Act.put, xA, xB, xC, i64_w, i32_w]
          rfl
         refine one_ (i := 9) (N := some 6) #[true, true, true, true, true, true, true, true, true, true, false] rfl rfl (one_of HT_.out (by kernel_rfl)) (by decide) (fun K hK => ?_)
         refine box_step ?hg (N := 6) ?hd (cs := #[.int .i64 0, .int .i64 0, .int .i64 0]) (t := 57) ?hr ?_; (case hd => rfl); (case hg => rfl); (case hr => first | (go_simp; done) | (go_simp; rfl))
         intro gb271 hg w54 hbox hb
         have HS0_ := (hb.cell (World.block_lt_of_cell? _ _ (hHeld.1))).trans (hHeld.1)
         have HS1_ := (hb.cell (World.block_lt_of_cell? _ _ (hHeld.2.1))).trans (hHeld.2.1)
         have HS2_ := (hb.cell (World.block_lt_of_cell? _ _ (hHeld.2.2.1))).trans (hHeld.2.2.1)
         have HS3_ := (hb.cell (World.block_lt_of_cell? _ _ (hHeld.2.2.2.1))).trans (hHeld.2.2.2.1)
         have HS4_ := (hb.cell (World.block_lt_of_cell? _ _ (hHeld.2.2.2.2.1))).trans (hHeld.2.2.2.2.1)
         have HS5_ := (hb.cell (World.block_lt_of_cell? _ _ (hHeld.2.2.2.2.2))).trans (hHeld.2.2.2.2.2)
         have n0_ := aM (Kd.R_below (Kd.R_elderB (mR_ HO_3.out) gb271 (Nat.le_of_eq hg.symm)) hb)
         have n1_ := aM (Kd.R_below (Kd.R_elderB (mR_ HO266.out) gb271 (Nat.le_of_eq hg.symm)) hb)
         have n2_ := aM (below_step zb hb)
         have n3_ := aM (hbox)
         have n4_ := aM ((ze : w.heap.size ≤ gb271))
         have n5_ := aM ((ze : w.heap.size ≤ gb271))
         clear HO_3
         clear HO266
         clear HB
         have HO_3 := n0_
         have HO266 := n1_
         have HB := n2_
         have BK271 := n3_
         have GW271 := n4_
         have GE271 := n5_
         clear n0_ n1_ n2_ n3_ n4_ n5_
         clear hb hbox hg
         refine hK.out _ _ ⟨HS0_, HS1_, HS2_, HS3_, HS4_, HS5_⟩ (fun hHeld => ?_)
         clear hK K
         refine norm_ (a' := ?_) ?_ ?_
         rotate_left
         ·show Act.put _ (some 6) _ = _
          simp only [Act.put, xA, xB, xC, i64_w, i32_w]
          rfl
         exact norm_ (by simp only [putAll, Act.put, xA, xB, xC]) (hCont ((.slice (some ad267) t264.length co52, gb271), ad267) _ ⟨hHeld, (by (with_reducible repeat (first | apply Kd.R_alloc | apply Kd.R_drewN | apply Kd.R_drew)); exact Kd.R_mono HO266.out (fun _ hk => ⟨hk.1.2, hk.2⟩)), (by (with_reducible repeat (first | apply Kd.R_alloc | apply Kd.R_drewN | apply Kd.R_drew)); exact Kd.R_mono HO_3.out (fun _ hk => ⟨hk.1.2, hk.2⟩)), (mB_ BK271.out), GW271.out, GE271.out, (zs GE271.out), ⟨_, rfl⟩⟩)
        ·skip
         refine box_step ?hg (N := 6) ?hd (cs := #[.int .i64 0, .int .i64 0, .int .i64 0]) (t := 57) ?hr ?_; (case hd => rfl); (case hg => rfl); (case hr => first | (go_simp; done) | (go_simp; rfl))
         intro gb271 hg w53 hbox hb
         have HS0_ := (hb.cell (World.block_lt_of_cell? _ _ (hHeld.1))).trans (hHeld.1)
         have HS1_ := (hb.cell (World.block_lt_of_cell? _ _ (hHeld.2.1))).trans (hHeld.2.1)
         have HS2_ := (hb.cell (World.block_lt_of_cell? _ _ (hHeld.2.2.1))).trans (hHeld.2.2.1)
         have HS3_ := (hb.cell (World.block_lt_of_cell? _ _ (hHeld.2.2.2.1))).trans (hHeld.2.2.2.1)
         have HS4_ := (hb.cell (World.block_lt_of_cell? _ _ (hHeld.2.2.2.2.1))).trans (hHeld.2.2.2.2.1)
         have HS5_ := (hb.cell (World.block_lt_of_cell? _ _ (hHeld.2.2.2.2.2))).trans (hHeld.2.2.2.2.2)
         have n0_ := aM (Kd.R_below (Kd.R_elderB (mR_ HO_3.out) gb271 (Nat.le_of_eq hg.symm)) hb)
         have n1_ := aM (Kd.R_below (Kd.R_elderB (mR_ HO266.out) gb271 (Nat.le_of_eq hg.symm)) hb)
         have n2_ := aM (below_step zb hb)
         have n3_ := aM (hbox)
         have n4_ := aM ((ze : w.heap.size ≤ gb271))
         have n5_ := aM ((ze : w.heap.size ≤ gb271))
         clear HO_3
         clear HO266
         clear HB
         have HO_3 := n0_
         have HO266 := n1_
         have HB := n2_
         have BK271 := n3_
         have GW271 := n4_
         have GE271 := n5_
         clear n0_ n1_ n2_ n3_ n4_ n5_
         clear hb hbox hg
         refine hK.out _ _ ⟨HS0_, HS1_, HS2_, HS3_, HS4_, HS5_⟩ (fun hHeld => ?_)
         clear hK K
         refine norm_ (a' := ?_) ?_ ?_
         rotate_left
         ·show Act.put _ (some 6) _ = _
          simp only [Act.put, xA, xB, xC, i64_w, i32_w]
          rfl
         refine one_ (i := 8) (N := some 29) #[true, true, true, true, true, true, true, true, true, true, false] rfl rfl (one_of HT_.out (by kernel_rfl)) (by decide) (fun K hK => ?_)
         refine goes_ Try.func78 (by kernel_rfl) rfl #[.agg #[.int .i64 ((rd_T57 x3_2 x4_1).f0), .int .i64 ((rd_T57 x3_2 x4_1).f1), .int .i64 ((rd_T57 x3_2 x4_1).f2)], .agg #[.int .i64 ((rd_T57 t264 x5_2).f0), .int .i64 ((rd_T57 t264 x5_2).f1), .int .i64 ((rd_T57 t264 x5_2).f2)]] (by rfl) rfl rfl zm ?_
         with_reducible refine (spec_l09Add.calls ((rd_T57 x3_2 x4_1).f0) ((rd_T57 x3_2 x4_1).f1) ((rd_T57 x3_2 x4_1).f2) ((rd_T57 t264 x5_2).f0) ((rd_T57 t264 x5_2).f1) ((rd_T57 t264 x5_2).f2) t268 t269 t270 _ A13.out).mono ?_
         rintro e w54 ⟨rfl, hb⟩
         have HS0_ := (hb.cell (World.block_lt_of_cell? _ _ (hHeld.1))).trans (hHeld.1)
         have HS1_ := (hb.cell (World.block_lt_of_cell? _ _ (hHeld.2.1))).trans (hHeld.2.1)
         have HS2_ := (hb.cell (World.block_lt_of_cell? _ _ (hHeld.2.2.1))).trans (hHeld.2.2.1)
         have HS3_ := (hb.cell (World.block_lt_of_cell? _ _ (hHeld.2.2.2.1))).trans (hHeld.2.2.2.1)
         have HS4_ := (hb.cell (World.block_lt_of_cell? _ _ (hHeld.2.2.2.2.1))).trans (hHeld.2.2.2.2.1)
         have HS5_ := (hb.cell (World.block_lt_of_cell? _ _ (hHeld.2.2.2.2.2))).trans (hHeld.2.2.2.2.2)
         refine ⟨_, rfl, ?_⟩
         have n0_ := aM (Kd.R_below (mR_ HO_3.out) hb)
         have n1_ := aM (Kd.R_below (mR_ HO266.out) hb)
         have n2_ := aM (blk_below (g := gb271) (o := .cells #[.int .i64 0, .int .i64 0, .int .i64 0] 57 (0, 0)) (mB_ BK271.out) hb)
         have n3_ := aM (below_step (zs GE271.out) hb)
         clear HO_3
         clear HO266
         clear BK271
         clear HB
         have HO_3 := n0_
         have HO266 := n1_
         have BK271 := n2_
         have HB := n3_
         clear n0_ n1_ n2_ n3_
         (try clear hb)
         (try clear hb2)
         (try clear hk)
         (try clear hi)
         refine hK.out _ _ ⟨HS0_, HS1_, HS2_, HS3_, HS4_, HS5_⟩ (fun hHeld => ?_)
         clear hK K
         refine norm_ (a' := ?_) ?_ ?_
         rotate_left
         ·show Act.put _ (some 29) _ = _
          simp only [Act.put, xA, xB, xC, i64_w, i32_w]
          rfl
         exact norm_ (by simp only [putAll, Act.put, xA, xB, xC]) (hCont ((.slice (some ad267) t264.length co52, gb271), ad267) _ ⟨hHeld, (by (with_reducible repeat (first | apply Kd.R_alloc | apply Kd.R_drewN | apply Kd.R_drew)); exact Kd.R_mono HO266.out (fun _ hk => ⟨hk.1.2, hk.2⟩)), (by (with_reducible repeat (first | apply Kd.R_alloc | apply Kd.R_drewN | apply Kd.R_drew)); exact Kd.R_mono HO_3.out (fun _ hk => ⟨hk.1.2, hk.2⟩)), (mB_ BK271.out), GW271.out, GE271.out, (zs GE271.out), ⟨_, rfl⟩⟩)
       ·skip
        refine box_step ?hg (N := 6) ?hd (cs := #[.int .i64 0, .int .i64 0, .int .i64 0]) (t := 57) ?hr ?_; (case hd => rfl); (case hg => rfl); (case hr => first | (go_simp; done) | (go_simp; rfl))
        intro gb271 hg w51 hbox hb
        have HS0_ := (hb.cell (World.block_lt_of_cell? _ _ (hHeld.1))).trans (hHeld.1)
        have HS1_ := (hb.cell (World.block_lt_of_cell? _ _ (hHeld.2.1))).trans (hHeld.2.1)
        have HS2_ := (hb.cell (World.block_lt_of_cell? _ _ (hHeld.2.2))).trans (hHeld.2.2)
        have n0_ := aM (Kd.R_below (Kd.R_elderB (mR_ HO_3.out) gb271 (Nat.le_of_eq hg.symm)) hb)
        have n1_ := aM (below_step zb hb)
        have n2_ := aM (hbox)
        have n3_ := aM ((ze : w.heap.size ≤ gb271))
        have n4_ := aM ((ze : w.heap.size ≤ gb271))
        clear HO_3
        clear HB
        have HO_3 := n0_
        have HB := n1_
        have BK271 := n2_
        have GW271 := n3_
        have GE271 := n4_
        clear n0_ n1_ n2_ n3_ n4_
        clear hb hbox hg
        refine hK.out _ _ ⟨HS0_, HS1_, HS2_⟩ (fun hHeld => ?_)
        clear hK K
        refine norm_ (a' := ?_) ?_ ?_
        rotate_left
        ·show Act.put _ (some 6) _ = _
         simp only [Act.put, xA, xB, xC, i64_w, i32_w]
         rfl
        refine one_ (i := 4) (N := some 25) #[true, true, true, true, true, true, false, false, false, true, false] rfl rfl (one_of HT_.out (by kernel_rfl)) (by decide) (fun K hK => ?_)
        refine goes_ Try.func79 (by kernel_rfl) rfl #[] (by rfl) rfl rfl zm ?_
        with_reducible refine (spec_l09Steps.calls  t264 _ A10.out).mono ?_
        rintro e w52 ⟨v265, rfl, ho0, hb⟩
        have HS0_ := (hb.cell (World.block_lt_of_cell? _ _ (hHeld.1))).trans (hHeld.1)
        have HS1_ := (hb.cell (World.block_lt_of_cell? _ _ (hHeld.2.1))).trans (hHeld.2.1)
        have HS2_ := (hb.cell (World.block_lt_of_cell? _ _ (hHeld.2.2))).trans (hHeld.2.2)
        refine ⟨_, rfl, ?_⟩
        have n0_ := aM (Kd.R_elder' (mR_ HO_3.out) (Kd.R_base ho0) hb)
        have n1_ := aM (Kd.R_lower (Kd.R_newB (Kd.R_new' ho0 (Kd.R_lt (mR_ HO_3.out))) (g := gb271) (o := .cells #[.int .i64 0, .int .i64 0, .int .i64 0] 57 (0, 0)) (mB_ BK271.out)) (below_size (zs GE271.out)))
        have n2_ := aM (blk_below (g := gb271) (o := .cells #[.int .i64 0, .int .i64 0, .int .i64 0] 57 (0, 0)) (mB_ BK271.out) hb)
        have n3_ := aM (below_step (zs GE271.out) hb)
        clear HO_3
        clear BK271
        clear HB
        have HO_3 := n0_
        have HO266 := n1_
        have BK271 := n2_
        have HB := n3_
        clear n0_ n1_ n2_ n3_
        (try clear hb)
        (try clear hb2)
        (try clear hk)
        (try clear hi)
        (try clear ho0)
        obtain ⟨Ao53, co53, eo53⟩ := Kd.R_slice HO266.out
        (first | subst eo53 | (injection eo53 with f1_ f2_ f3_; have f4_ := f1_.symm; have f5_ := f3_.symm; clear f1_ f2_ f3_; subst f4_; subst f5_))
        have p267 : 0 ≤ (x5_2 : Int) := of_decide_eq_true za
        have q267 : x5_2 < (t264.length : Int) := of_decide_eq_true za
        obtain ⟨ad267, e267, hx267_0, hx267_1, hx267_2⟩ := at_T57 (Kd.R_reads' HO266.out).2.2 x5_2 p267 q267
        cases e267
        replace p267 := eq_true p267
        replace q267 := eq_true q267
        refine hK.out _ _ ⟨HS0_, HS1_, HS2_⟩ (fun hHeld => ?_)
        clear hK K
        refine more_ (S' := fun w' => w'.cell? (ad263.add ((x4_1).toNat * 3)) = some (.int .i64 ((rd_T57 x3_2 x4_1).f0)) ∧ w'.cell? ⟨(ad263.add ((x4_1).toNat * 3)).block, (ad263.add ((x4_1).toNat * 3)).off + 1, none⟩ = some (.int .i64 ((rd_T57 x3_2 x4_1).f1)) ∧ w'.cell? ⟨(ad263.add ((x4_1).toNat * 3)).block, (ad263.add ((x4_1).toNat * 3)).off + 2, none⟩ = some (.int .i64 ((rd_T57 x3_2 x4_1).f2)) ∧ w'.cell? (ad267.add ((x5_2).toNat * 3)) = some (.int .i64 ((rd_T57 t264 x5_2).f0)) ∧ w'.cell? ⟨(ad267.add ((x5_2).toNat * 3)).block, (ad267.add ((x5_2).toNat * 3)).off + 1, none⟩ = some (.int .i64 ((rd_T57 t264 x5_2).f1)) ∧ w'.cell? ⟨(ad267.add ((x5_2).toNat * 3)).block, (ad267.add ((x5_2).toNat * 3)).off + 2, none⟩ = some (.int .i64 ((rd_T57 t264 x5_2).f2))) (fun _ h_ => ⟨h_.1, h_.2.1, h_.2.2.1⟩) ⟨hHeld.1, hHeld.2.1, hHeld.2.2, hx267_0, hx267_1, hx267_2⟩ (fun hHeld => ?_)
        refine norm_ (a' := ?_) ?_ ?_
        rotate_left
        ·show Act.put _ (some 25) _ = _
         simp only [Act.put, xA, xB, xC, i64_w, i32_w]
         rfl
        refine pure_ (i := 6) (N := some 27) (v := ?_) (a' := ?_) #[true, true, true, true, true, true, true, false, false, true, false] rfl rfl zz (fun _ _ _ h => h) (Or.inl ⟨by rfl, ?_⟩) ?_ ?_
        rotate_left
        ·intro w'
         go_simp
         with_reducible rfl
        rotate_left
        ·simp only [Act.put, xA, xB, xC, i64_w, i32_w]
         rfl
        refine take_ (i := 7) (N := some 28) (v := ?_) (a' := ?_) #[true, true, true, true, true, true, true, true, false, true, false] rfl rfl (take_ofW HT_.out HW_.out (by kernel_rfl)) (fun _ _ _ h => h) (Or.inl ⟨by rfl, ?_⟩) hHeld ?_ ?_
        rotate_left
        ·rintro w' ⟨s0, s1, s2, s3, s4, s5⟩
         go_simp
         with_reducible rfl
        rotate_left
        ·simp only [Act.put, xA, xB, xC, i64_w, i32_w]
         rfl
        refine one_ (i := 8) (N := some 29) #[true, true, true, true, true, true, true, true, true, true, false] rfl rfl (one_of HT_.out (by kernel_rfl)) (by decide) (fun K hK => ?_)
        refine goes_ Try.func78 (by kernel_rfl) rfl #[.agg #[.int .i64 ((rd_T57 x3_2 x4_1).f0), .int .i64 ((rd_T57 x3_2 x4_1).f1), .int .i64 ((rd_T57 x3_2 x4_1).f2)], .agg #[.int .i64 ((rd_T57 t264 x5_2).f0), .int .i64 ((rd_T57 t264 x5_2).f1), .int .i64 ((rd_T57 t264 x5_2).f2)]] (by rfl) rfl rfl zm ?_
        with_reducible refine (spec_l09Add.calls ((rd_T57 x3_2 x4_1).f0) ((rd_T57 x3_2 x4_1).f1) ((rd_T57 x3_2 x4_1).f2) ((rd_T57 t264 x5_2).f0) ((rd_T57 t264 x5_2).f1) ((rd_T57 t264 x5_2).f2) t268 t269 t270 _ A13.out).mono ?_
        rintro e w54 ⟨rfl, hb⟩
        have HS0_ := (hb.cell (World.block_lt_of_cell? _ _ (hHeld.1))).trans (hHeld.1)
        have HS1_ := (hb.cell (World.block_lt_of_cell? _ _ (hHeld.2.1))).trans (hHeld.2.1)
        have HS2_ := (hb.cell (World.block_lt_of_cell? _ _ (hHeld.2.2.1))).trans (hHeld.2.2.1)
        have HS3_ := (hb.cell (World.block_lt_of_cell? _ _ (hHeld.2.2.2.1))).trans (hHeld.2.2.2.1)
        have HS4_ := (hb.cell (World.block_lt_of_cell? _ _ (hHeld.2.2.2.2.1))).trans (hHeld.2.2.2.2.1)
        have HS5_ := (hb.cell (World.block_lt_of_cell? _ _ (hHeld.2.2.2.2.2))).trans (hHeld.2.2.2.2.2)
        refine ⟨_, rfl, ?_⟩
        have n0_ := aM (Kd.R_below (mR_ HO_3.out) hb)
        have n1_ := aM (Kd.R_below (mR_ HO266.out) hb)
        have n2_ := aM (blk_below (g := gb271) (o := .cells #[.int .i64 0, .int .i64 0, .int .i64 0] 57 (0, 0)) (mB_ BK271.out) hb)
        have n3_ := aM (below_step (zs GE271.out) hb)
        clear HO_3
        clear HO266
        clear BK271
        clear HB
        have HO_3 := n0_
        have HO266 := n1_
        have BK271 := n2_
        have HB := n3_
        clear n0_ n1_ n2_ n3_
        (try clear hb)
        (try clear hb2)
        (try clear hk)
        (try clear hi)
        refine hK.out _ _ ⟨HS0_, HS1_, HS2_, HS3_, HS4_, HS5_⟩ (fun hHeld => ?_)
        clear hK K
        refine norm_ (a' := ?_) ?_ ?_
        rotate_left
        ·show Act.put _ (some 29) _ = _
         simp only [Act.put, xA, xB, xC, i64_w, i32_w]
         rfl
        exact norm_ (by simp only [putAll, Act.put, xA, xB, xC]) (hCont ((.slice (some ad267) t264.length co53, gb271), ad267) _ ⟨hHeld, (by (with_reducible repeat (first | apply Kd.R_alloc | apply Kd.R_drewN | apply Kd.R_drew)); exact Kd.R_mono HO266.out (fun _ hk => ⟨hk.1.2, hk.2⟩)), (by (with_reducible repeat (first | apply Kd.R_alloc | apply Kd.R_drewN | apply Kd.R_drew)); exact Kd.R_mono HO_3.out (fun _ hk => ⟨hk.2, hk.1.2⟩)), (mB_ BK271.out), GW271.out, GE271.out, (zs GE271.out), ⟨_, rfl⟩⟩)
      rintro ⟨⟨v265, gb271⟩, ad267⟩ w55 ⟨hS_, h0_, h1_, h2_, h3_, h4_, h5_, ⟨c9_, h9_⟩⟩
      replace h9_ : v265 = Value.slice (some ad267) t264.length c9_ := h9_
      subst h9_
      refine more_ (S' := fun w' => w'.cell? (ad263.add ((x4_1).toNat * 3)) = some (.int .i64 ((rd_T57 x3_2 x4_1).f0)) ∧ w'.cell? ⟨(ad263.add ((x4_1).toNat * 3)).block, (ad263.add ((x4_1).toNat * 3)).off + 1, none⟩ = some (.int .i64 ((rd_T57 x3_2 x4_1).f1)) ∧ w'.cell? ⟨(ad263.add ((x4_1).toNat * 3)).block, (ad263.add ((x4_1).toNat * 3)).off + 2, none⟩ = some (.int .i64 ((rd_T57 x3_2 x4_1).f2)) ∧ w'.cell? (ad267.add ((x5_2).toNat * 3)) = some (.int .i64 ((rd_T57 t264 x5_2).f0)) ∧ w'.cell? ⟨(ad267.add ((x5_2).toNat * 3)).block, (ad267.add ((x5_2).toNat * 3)).off + 1, none⟩ = some (.int .i64 ((rd_T57 t264 x5_2).f1)) ∧ w'.cell? ⟨(ad267.add ((x5_2).toNat * 3)).block, (ad267.add ((x5_2).toNat * 3)).off + 2, none⟩ = some (.int .i64 ((rd_T57 t264 x5_2).f2))) (fun _ h_ => h_) hS_ (fun hS_ => ?_)
      have n0_ : Aside0 (Kd.R k57 57 w55 w.heap.size (fun k_ => some k_ ≠ (.slice (some ad263) x3_2.length co50 : Value).ownBlock ∧ k_ ≠ gb271) (.slice (some ad267) t264.length c9_) t264) := ⟨h0_⟩
      have n1_ : Aside0 (Kd.R k57 57 w55 w.heap.size (fun k_ => some k_ ≠ ((.slice (some ad267) t264.length c9_) : Value).ownBlock ∧ k_ ≠ gb271) (.slice (some ad263) x3_2.length co50) x3_2) := ⟨h1_⟩
      have n2_ : Aside0 (w55.heap[gb271]? = some (.cells #[.int .i64 0, .int .i64 0, .int .i64 0] 57 (0, 0))) := ⟨h2_⟩
      have n3_ : Aside0 (w.heap.size ≤ gb271) := ⟨h3_⟩
      have n4_ : Aside0 (w.heap.size ≤ gb271) := ⟨h4_⟩
      have n5_ : Aside0 (Below w.heap.size w w55) := ⟨h5_⟩
      clear HO_3
      clear HB
      clear h0_ h1_ h2_ h3_ h4_ h5_
      have HO266 := n0_
      have HO_3 := n1_
      have BK271 := n2_
      have GW271 := n3_
      have GE271 := n4_
      have HB := n5_
      clear n0_ n1_ n2_ n3_ n4_ n5_
      have hHeld : w55.cell? (ad263.add ((x4_1).toNat * 3)) = some (.int .i64 ((rd_T57 x3_2 x4_1).f0)) ∧ w55.cell? ⟨(ad263.add ((x4_1).toNat * 3)).block, (ad263.add ((x4_1).toNat * 3)).off + 1, none⟩ = some (.int .i64 ((rd_T57 x3_2 x4_1).f1)) ∧ w55.cell? ⟨(ad263.add ((x4_1).toNat * 3)).block, (ad263.add ((x4_1).toNat * 3)).off + 2, none⟩ = some (.int .i64 ((rd_T57 x3_2 x4_1).f2)) ∧ w55.cell? (ad267.add ((x5_2).toNat * 3)) = some (.int .i64 ((rd_T57 t264 x5_2).f0)) ∧ w55.cell? ⟨(ad267.add ((x5_2).toNat * 3)).block, (ad267.add ((x5_2).toNat * 3)).off + 1, none⟩ = some (.int .i64 ((rd_T57 t264 x5_2).f1)) ∧ w55.cell? ⟨(ad267.add ((x5_2).toNat * 3)).block, (ad267.add ((x5_2).toNat * 3)).off + 2, none⟩ = some (.int .i64 ((rd_T57 t264 x5_2).f2)) := hS_
      refine norm_ (a' := ?_) ?_ ?_
      rotate_left
      ·simp only [putAll, Act.put, xA, xB, xC]
       rfl
      refine one_ (i := 10) (N := none) #[true, true, true, true, true, true, true, true, true, true, true] rfl rfl (one_of HT_.out (by kernel_rfl)) (by decide) (fun K hK => ?_)
      have hs56 : w55.cell? ⟨gb271, 0, none⟩ = some (.int .i64 0) := (blk_cell BK271.out 0).trans rfl
      have hfs56 := blk_frozen BK271.out 0
      have hs57 : w55.cell? ⟨gb271, 1, none⟩ = some (.int .i64 0) := (blk_cell BK271.out 1).trans rfl
      have hfs57 := blk_frozen BK271.out 1
      have hs58 : w55.cell? ⟨gb271, 2, none⟩ = some (.int .i64 0) := (blk_cell BK271.out 2).trans rfl
      have hfs58 := blk_frozen BK271.out 2
      refine skip_ (w1 := ?_) (by rfl) rfl ?_ ?_
      rotate_left
      ·go_simp
       rfl
      refine hK.out _ _ ⟨((cell_far (p := ⟨gb271, _, none⟩) (by first | exact Kd.own_blk (Kd.R_away HO_3.out (fun _ hk => hk.2)) | (rw [add_block]; exact Kd.own_blk (Kd.R_away HO_3.out (fun _ hk => hk.2))) | (show (Addr.add _ _).block ≠ _; rw [add_block]; exact Kd.own_blk (Kd.R_away HO_3.out (fun _ hk => hk.2))) | (dsimp only; exact Kd.own_blk (Kd.R_away HO_3.out (fun _ hk => hk.2)))) _).trans (((cell_far (p := ⟨gb271, _, none⟩) (by first | exact Kd.own_blk (Kd.R_away HO_3.out (fun _ hk => hk.2)) | (rw [add_block]; exact Kd.own_blk (Kd.R_away HO_3.out (fun _ hk => hk.2))) | (show (Addr.add _ _).block ≠ _; rw [add_block]; exact Kd.own_blk (Kd.R_away HO_3.out (fun _ hk => hk.2))) | (dsimp only; exact Kd.own_blk (Kd.R_away HO_3.out (fun _ hk => hk.2)))) _).trans (((cell_far (p := ⟨gb271, _, none⟩) (by first | exact Kd.own_blk (Kd.R_away HO_3.out (fun _ hk => hk.2)) | (rw [add_block]; exact Kd.own_blk (Kd.R_away HO_3.out (fun _ hk => hk.2))) | (show (Addr.add _ _).block ≠ _; rw [add_block]; exact Kd.own_blk (Kd.R_away HO_3.out (fun _ hk => hk.2))) | (dsimp only; exact Kd.own_blk (Kd.R_away HO_3.out (fun _ hk => hk.2)))) _).trans (hHeld.1)))))), ((cell_far (p := ⟨gb271, _, none⟩) (by first | exact Kd.own_blk (Kd.R_away HO_3.out (fun _ hk => hk.2)) | (rw [add_block]; exact Kd.own_blk (Kd.R_away HO_3.out (fun _ hk => hk.2))) | (show (Addr.add _ _).block ≠ _; rw [add_block]; exact Kd.own_blk (Kd.R_away HO_3.out (fun _ hk => hk.2))) | (dsimp only; exact Kd.own_blk (Kd.R_away HO_3.out (fun _ hk => hk.2)))) _).trans (((cell_far (p := ⟨gb271, _, none⟩) (by first | exact Kd.own_blk (Kd.R_away HO_3.out (fun _ hk => hk.2)) | (rw [add_block]; exact Kd.own_blk (Kd.R_away HO_3.out (fun _ hk => hk.2))) | (show (Addr.add _ _).block ≠ _; rw [add_block]; exact Kd.own_blk (Kd.R_away HO_3.out (fun _ hk => hk.2))) | (dsimp only; exact Kd.own_blk (Kd.R_away HO_3.out (fun _ hk => hk.2)))) _).trans (((cell_far (p := ⟨gb271, _, none⟩) (by first | exact Kd.own_blk (Kd.R_away HO_3.out (fun _ hk => hk.2)) | (rw [add_block]; exact Kd.own_blk (Kd.R_away HO_3.out (fun _ hk => hk.2))) | (show (Addr.add _ _).block ≠ _; rw [add_block]; exact Kd.own_blk (Kd.R_away HO_3.out (fun _ hk => hk.2))) | (dsimp only; exact Kd.own_blk (Kd.R_away HO_3.out (fun _ hk => hk.2)))) _).trans (hHeld.2.1)))))), ((cell_far (p := ⟨gb271, _, none⟩) (by first | exact Kd.own_blk (Kd.R_away HO_3.out (fun _ hk => hk.2)) | (rw [add_block]; exact Kd.own_blk (Kd.R_away HO_3.out (fun _ hk => hk.2))) | (show (Addr.add _ _).block ≠ _; rw [add_block]; exact Kd.own_blk (Kd.R_away HO_3.out (fun _ hk => hk.2))) | (dsimp only; exact Kd.own_blk (Kd.R_away HO_3.out (fun _ hk => hk.2)))) _).trans (((cell_far (p := ⟨gb271, _, none⟩) (by first | exact Kd.own_blk (Kd.R_away HO_3.out (fun _ hk => hk.2)) | (rw [add_block]; exact Kd.own_blk (Kd.R_away HO_3.out (fun _ hk => hk.2))) | (show (Addr.add _ _).block ≠ _; rw [add_block]; exact Kd.own_blk (Kd.R_away HO_3.out (fun _ hk => hk.2))) | (dsimp only; exact Kd.own_blk (Kd.R_away HO_3.out (fun _ hk => hk.2)))) _).trans (((cell_far (p := ⟨gb271, _, none⟩) (by first | exact Kd.own_blk (Kd.R_away HO_3.out (fun _ hk => hk.2)) | (rw [add_block]; exact Kd.own_blk (Kd.R_away HO_3.out (fun _ hk => hk.2))) | (show (Addr.add _ _).block ≠ _; rw [add_block]; exact Kd.own_blk (Kd.R_away HO_3.out (fun _ hk => hk.2))) | (dsimp only; exact Kd.own_blk (Kd.R_away HO_3.out (fun _ hk => hk.2)))) _).trans (hHeld.2.2.1)))))), ((cell_far (p := ⟨gb271, _, none⟩) (by first | exact Kd.own_blk (Kd.R_away HO266.out (fun _ hk => hk.2)) | (rw [add_block]; exact Kd.own_blk (Kd.R_away HO266.out (fun _ hk => hk.2))) | (show (Addr.add _ _).block ≠ _; rw [add_block]; exact Kd.own_blk (Kd.R_away HO266.out (fun _ hk => hk.2))) | (dsimp only; exact Kd.own_blk (Kd.R_away HO266.out (fun _ hk => hk.2)))) _).trans (((cell_far (p := ⟨gb271, _, none⟩) (by first | exact Kd.own_blk (Kd.R_away HO266.out (fun _ hk => hk.2)) | (rw [add_block]; exact Kd.own_blk (Kd.R_away HO266.out (fun _ hk => hk.2))) | (show (Addr.add _ _).block ≠ _; rw [add_block]; exact Kd.own_blk (Kd.R_away HO266.out (fun _ hk => hk.2))) | (dsimp only; exact Kd.own_blk (Kd.R_away HO266.out (fun _ hk => hk.2)))) _).trans (((cell_far (p := ⟨gb271, _, none⟩) (by first | exact Kd.own_blk (Kd.R_away HO266.out (fun _ hk => hk.2)) | (rw [add_block]; exact Kd.own_blk (Kd.R_away HO266.out (fun _ hk => hk.2))) | (show (Addr.add _ _).block ≠ _; rw [add_block]; exact Kd.own_blk (Kd.R_away HO266.out (fun _ hk => hk.2))) | (dsimp only; exact Kd.own_blk (Kd.R_away HO266.out (fun _ hk => hk.2)))) _).trans (hHeld.2.2.2.1)))))), ((cell_far (p := ⟨gb271, _, none⟩) (by first | exact Kd.own_blk (Kd.R_away HO266.out (fun _ hk => hk.2)) | (rw [add_block]; exact Kd.own_blk (Kd.R_away HO266.out (fun _ hk => hk.2))) | (show (Addr.add _ _).block ≠ _; rw [add_block]; exact Kd.own_blk (Kd.R_away HO266.out (fun _ hk => hk.2))) | (dsimp only; exact Kd.own_blk (Kd.R_away HO266.out (fun _ hk => hk.2)))) _).trans (((cell_far (p := ⟨gb271, _, none⟩) (by first | exact Kd.own_blk (Kd.R_away HO266.out (fun _ hk => hk.2)) | (rw [add_block]; exact Kd.own_blk (Kd.R_away HO266.out (fun _ hk => hk.2))) | (show (Addr.add _ _).block ≠ _; rw [add_block]; exact Kd.own_blk (Kd.R_away HO266.out (fun _ hk => hk.2))) | (dsimp only; exact Kd.own_blk (Kd.R_away HO266.out (fun _ hk => hk.2)))) _).trans (((cell_far (p := ⟨gb271, _, none⟩) (by first | exact Kd.own_blk (Kd.R_away HO266.out (fun _ hk => hk.2)) | (rw [add_block]; exact Kd.own_blk (Kd.R_away HO266.out (fun _ hk => hk.2))) | (show (Addr.add _ _).block ≠ _; rw [add_block]; exact Kd.own_blk (Kd.R_away HO266.out (fun _ hk => hk.2))) | (dsimp only; exact Kd.own_blk (Kd.R_away HO266.out (fun _ hk => hk.2)))) _).trans (hHeld.2.2.2.2.1)))))), ((cell_far (p := ⟨gb271, _, none⟩) (by first | exact Kd.own_blk (Kd.R_away HO266.out (fun _ hk => hk.2)) | (rw [add_block]; exact Kd.own_blk (Kd.R_away HO266.out (fun _ hk => hk.2))) | (show (Addr.add _ _).block ≠ _; rw [add_block]; exact Kd.own_blk (Kd.R_away HO266.out (fun _ hk => hk.2))) | (dsimp only; exact Kd.own_blk (Kd.R_away HO266.out (fun _ hk => hk.2)))) _).trans (((cell_far (p := ⟨gb271, _, none⟩) (by first | exact Kd.own_blk (Kd.R_away HO266.out (fun _ hk => hk.2)) | (rw [add_block]; exact Kd.own_blk (Kd.R_away HO266.out (fun _ hk => hk.2))) | (show (Addr.add _ _).block ≠ _; rw [add_block]; exact Kd.own_blk (Kd.R_away HO266.out (fun _ hk => hk.2))) | (dsimp only; exact Kd.own_blk (Kd.R_away HO266.out (fun _ hk => hk.2)))) _).trans (((cell_far (p := ⟨gb271, _, none⟩) (by first | exact Kd.own_blk (Kd.R_away HO266.out (fun _ hk => hk.2)) | (rw [add_block]; exact Kd.own_blk (Kd.R_away HO266.out (fun _ hk => hk.2))) | (show (Addr.add _ _).block ≠ _; rw [add_block]; exact Kd.own_blk (Kd.R_away HO266.out (fun _ hk => hk.2))) | (dsimp only; exact Kd.own_blk (Kd.R_away HO266.out (fun _ hk => hk.2)))) _).trans (hHeld.2.2.2.2.2))))))⟩ (fun hHeld => ?_)
      clear hK K
      refine done_ (done_of HT_.out (by kernel_rfl)) ?_
      have hcz59_0 : w55.cell? ⟨gb271, 0, none⟩ = some (.int .i64 0) := (blk_cell BK271.out 0).trans rfl
      have hcz59_1 : w55.cell? ⟨gb271, 1, none⟩ = some (.int .i64 0) := (blk_cell BK271.out 1).trans rfl
      have hcz59_2 : w55.cell? ⟨gb271, 2, none⟩ = some (.int .i64 0) := (blk_cell BK271.out 2).trans rfl
      have hfz59_0 := blk_frozen BK271.out 0
      have hfz59_1 := blk_frozen BK271.out 1
      have hfz59_2 := blk_frozen BK271.out 2
      try go_wp2_with (first | ((with_reducible refine gate_callee (f := 77) rfl ?_); refine goesL_ (some 32) rfl rfl Try.func77 (by kernel_rfl) rfl #[.slice (some ad259) l0.length c0, .agg #[.int .i64 t268, .int .i64 t269, .int .i64 t270]] rfl zm ?_; (with_reducible refine (spec_l09Index.calls k2 _ _ l0 t268 t269 t270 t272 _ ?side1 ?side2 A14.out).mono ?_); (case side1 => exact Kd.C_below HR0.out (zs GE271.out)); (case side2 => exact HC0.out); rintro e w60 ⟨rfl, hb⟩; refine ⟨_, rfl, ?_⟩; have n0_ := aM (Kd.R_below (by (with_reducible repeat (first | apply Kd.R_alloc | apply Kd.R_drewN | apply Kd.R_drew)); exact (Kd.R_mono (Kd.R_far (p := ⟨gb271, 2, none⟩) (Kd.R_far (p := ⟨gb271, 1, none⟩) (Kd.R_far (p := ⟨gb271, 0, none⟩) (Kd.R_mono HO_3.out (fun k_ hk => (⟨hk, hk.2⟩ : _ ∧ k_ ≠ gb271))) (fun _ hk => hk.2) (.int .i64 t268)) (fun _ hk => hk.2) (.int .i64 t269)) (fun _ hk => hk.2) (.int .i64 t270)) (fun _ h_ => h_.1))) hb); have n1_ := aM (Kd.R_below (by (with_reducible repeat (first | apply Kd.R_alloc | apply Kd.R_drewN | apply Kd.R_drew)); exact (Kd.R_mono (Kd.R_far (p := ⟨gb271, 2, none⟩) (Kd.R_far (p := ⟨gb271, 1, none⟩) (Kd.R_far (p := ⟨gb271, 0, none⟩) (Kd.R_mono HO266.out (fun k_ hk => (⟨hk, hk.2⟩ : _ ∧ k_ ≠ gb271))) (fun _ hk => hk.2) (.int .i64 t268)) (fun _ hk => hk.2) (.int .i64 t269)) (fun _ hk => hk.2) (.int .i64 t270)) (fun _ h_ => h_.1))) hb); have n2_ := aM (blk_below (g := gb271) (o := .cells #[.int .i64 t268, .int .i64 t269, .int .i64 t270] 57 (0, 0)) (by (with_reducible repeat (first | refine blk_drewN ?_ _ | refine blk_drew ?_ | refine blk_alloc ?_ _)); refine blk_put (cs := #[.int .i64 t268, .int .i64 t269, .int .i64 0]) ?_ 2 _ rfl; (with_reducible repeat (first | refine blk_drewN ?_ _ | refine blk_drew ?_ | refine blk_alloc ?_ _)); refine blk_put (cs := #[.int .i64 t268, .int .i64 0, .int .i64 0]) ?_ 1 _ rfl; (with_reducible repeat (first | refine blk_drewN ?_ _ | refine blk_drew ?_ | refine blk_alloc ?_ _)); refine blk_put (cs := #[.int .i64 0, .int .i64 0, .int .i64 0]) ?_ 0 _ rfl; (with_reducible repeat (first | refine blk_drewN ?_ _ | refine blk_drew ?_ | refine blk_alloc ?_ _)); exact BK271.out) hb); have n3_ := aM (below_step (zs GE271.out) hb); clear HO_3; clear HO266; clear BK271; clear HB; have HO_3 := n0_; have HO266 := n1_; have BK271 := n2_; have HB := n3_; clear n0_ n1_ n2_ n3_; (try clear hb); (try clear hb2); (try clear hk); (try clear hi)))
      go_roundg k2
      case measure => have := HK1.out; have := HK2.out; omega
      case rel => exact ⟨(x3_2), (wrap64 (x5_2 + 1)), zr, H', ⟨by have := HK1.out; have := HK2.out; omega⟩, ⟨by (with_reducible repeat (first | apply Kd.R_alloc | apply Kd.R_drewN | apply Kd.R_drew)); exact Kd.R_mono HO_3.out (fun _ hk => trivial)⟩, ⟨zs GE271.out⟩⟩
     rw [if_pos c15] at H
     have c15b0 : decide (0 ≤ t272) = true := decide_eq_true c15
     clear c15
     replace H := Option.bind_eq_some_iff.mp H
     obtain ⟨t273, A160, H⟩ := H
     replace H : (if t273 < 0 then (if x3_2.length < 5864062014805 then (spec_l09Connected.l1 k2 l0 (x3_2 ++ [(⟨t268, t269, t270⟩ : S57)]) x4_1 (wrap64 (x5_2 + 1))) else (none)) else (spec_l09Connected.l1 k2 l0 x3_2 x4_1 (wrap64 (x5_2 + 1)))) = some r := H
     have A16 := aM A160
     clear A160
     by_cases c17 : t273 < 0
     rotate_left
     ·rw [if_neg c17] at H
      have c17b0 : decide (t273 < 0) = false := decide_eq_false c17
      clear c17
      have H' := aM H
      clear H
      try go_wp2
      have n0_ := aM (Kd.R_drew HO_3.out)
      have n1_ := aM (below_drew1 HB.out)
      clear HO_3
      clear HB
      have HO_3 := n0_
      have HB := n1_
      clear n0_ n1_
      obtain ⟨Ao36, co36, eo36⟩ := Kd.R_slice HO_3.out
      (first | subst eo36 | (injection eo36 with f1_ f2_ f3_; have f4_ := f1_.symm; have f5_ := f3_.symm; clear f1_ f2_ f3_; subst f4_; subst f5_))
      have p263 : 0 ≤ (x4_1 : Int) := of_decide_eq_true za
      have q263 : x4_1 < (x3_2.length : Int) := of_decide_eq_true za
      obtain ⟨ad263, e263, hx263_0, hx263_1, hx263_2⟩ := at_T57 (Kd.R_reads' HO_3.out).2.2 x4_1 p263 q263
      cases e263
      replace p263 := eq_true p263
      replace q263 := eq_true q263
      refine start_ (n := 11) (S := fun w' => w'.cell? (ad263.add ((x4_1).toNat * 3)) = some (.int .i64 ((rd_T57 x3_2 x4_1).f0)) ∧ w'.cell? ⟨(ad263.add ((x4_1).toNat * 3)).block, (ad263.add ((x4_1).toNat * 3)).off + 1, none⟩ = some (.int .i64 ((rd_T57 x3_2 x4_1).f1)) ∧ w'.cell? ⟨(ad263.add ((x4_1).toNat * 3)).block, (ad263.add ((x4_1).toNat * 3)).off + 2, none⟩ = some (.int .i64 ((rd_T57 x3_2 x4_1).f2))) (ds := []) #[false, false, false, false, false, false, false, false, false, false, false] (by kernel_rfl) rfl rfl ⟨hx263_0, hx263_1, hx263_2⟩ (fun hHeld => ?_); refine with_tabW spec_l09Connected.tab8 spec_l09Connected.bits8 (fun HT_ HW_ => ?_)
      generalize wr.drew = w35 at HO_3 HB hx263_0 hx263_1 hx263_2 hHeld ⊢
      refine pure_ (i := 0) (N := some 21) (v := ?_) (a' := ?_) #[true, false, false, false, false, false, false, false, false, false, false] rfl rfl zz (fun _ _ _ h => h) (Or.inl ⟨by rfl, ?_⟩) ?_ ?_
      rotate_left
      ·intro w'
       go_simp
       with_reducible rfl
      rotate_left
      ·simp only [Act.put, xA, xB, xC, i64_w, i32_w]
       rfl
      refine pure_ (i := 1) (N := some 22) (v := ?_) (a' := ?_) #[true, true, false, false, false, false, false, false, false, false, false] rfl rfl zz (fun _ _ _ h => h) (Or.inl ⟨by rfl, ?_⟩) ?_ ?_
      rotate_left
      ·intro w'
       go_simp
       with_reducible rfl
      rotate_left
      ·simp only [Act.put, xA, xB, xC, i64_w, i32_w]
       rfl
      refine pure_ (i := 2) (N := some 23) (v := ?_) (a' := ?_) #[true, true, true, false, false, false, false, false, false, false, false] rfl rfl zz (fun _ _ _ h => h) (Or.inl ⟨by rfl, ?_⟩) ?_ ?_
      rotate_left
      ·intro w'
       go_simp
       with_reducible rfl
      rotate_left
      ·simp only [Act.put, xA, xB, xC, i64_w, i32_w]
       rfl
      refine pure_ (i := 5) (N := some 26) (v := ?_) (a' := ?_) #[true, true, true, false, false, true, false, false, false, false, false] rfl rfl zz (fun _ _ _ h => h) (Or.inl ⟨by rfl, ?_⟩) ?_ ?_
      rotate_left
      ·intro w'
       go_simp
       with_reducible rfl
      rotate_left
      ·simp only [Act.put, xA, xB, xC, i64_w, i32_w]
       rfl
      refine take_ (i := 3) (N := some 24) (v := ?_) (a' := ?_) #[true, true, true, true, false, true, false, false, false, false, false] rfl rfl (take_ofW HT_.out HW_.out (by kernel_rfl)) (fun _ _ _ h => h) (Or.inl ⟨by rfl, ?_⟩) hHeld ?_ ?_
      rotate_left
      ·rintro w' ⟨s0, s1, s2⟩
       go_simp
       with_reducible rfl
      rotate_left
      ·simp only [Act.put, xA, xB, xC, i64_w, i32_w]
       rfl
      refine join9_ (σ := (Value × Nat) × Addr) (fun s_ w' => w'.cell? (ad263.add ((x4_1).toNat * 3)) = some (.int .i64 ((rd_T57 x3_2 x4_1).f0)) ∧ w'.cell? ⟨(ad263.add ((x4_1).toNat * 3)).block, (ad263.add ((x4_1).toNat * 3)).off + 1, none⟩ = some (.int .i64 ((rd_T57 x3_2 x4_1).f1)) ∧ w'.cell? ⟨(ad263.add ((x4_1).toNat * 3)).block, (ad263.add ((x4_1).toNat * 3)).off + 2, none⟩ = some (.int .i64 ((rd_T57 x3_2 x4_1).f2)) ∧ w'.cell? (s_.2.add ((x5_2).toNat * 3)) = some (.int .i64 ((rd_T57 t264 x5_2).f0)) ∧ w'.cell? ⟨(s_.2.add ((x5_2).toNat * 3)).block, (s_.2.add ((x5_2).toNat * 3)).off + 1, none⟩ = some (.int .i64 ((rd_T57 t264 x5_2).f1)) ∧ w'.cell? ⟨(s_.2.add ((x5_2).toNat * 3)).block, (s_.2.add ((x5_2).toNat * 3)).off + 2, none⟩ = some (.int .i64 ((rd_T57 t264 x5_2).f2))) 1 #[true, true, true, true, true, true, true, true, true, true, false] (fun s_ => [(25, s_.1.1), (29, .agg #[.int .i64 t268, .int .i64 t269, .int .i64 t270]), (6, .pointer (some ⟨s_.1.2, 0, none⟩)), (27, .pointer (some (s_.2.add ((x5_2).toNat * 3)))), (28, .agg #[.int .i64 ((rd_T57 t264 x5_2).f0), .int .i64 ((rd_T57 t264 x5_2).f1), .int .i64 ((rd_T57 t264 x5_2).f2)])]) (fun s_ w' => (w'.cell? (ad263.add ((x4_1).toNat * 3)) = some (.int .i64 ((rd_T57 x3_2 x4_1).f0)) ∧ w'.cell? ⟨(ad263.add ((x4_1).toNat * 3)).block, (ad263.add ((x4_1).toNat * 3)).off + 1, none⟩ = some (.int .i64 ((rd_T57 x3_2 x4_1).f1)) ∧ w'.cell? ⟨(ad263.add ((x4_1).toNat * 3)).block, (ad263.add ((x4_1).toNat * 3)).off + 2, none⟩ = some (.int .i64 ((rd_T57 x3_2 x4_1).f2)) ∧ w'.cell? (s_.2.add ((x5_2).toNat * 3)) = some (.int .i64 ((rd_T57 t264 x5_2).f0)) ∧ w'.cell? ⟨(s_.2.add ((x5_2).toNat * 3)).block, (s_.2.add ((x5_2).toNat * 3)).off + 1, none⟩ = some (.int .i64 ((rd_T57 t264 x5_2).f1)) ∧ w'.cell? ⟨(s_.2.add ((x5_2).toNat * 3)).block, (s_.2.add ((x5_2).toNat * 3)).off + 2, none⟩ = some (.int .i64 ((rd_T57 t264 x5_2).f2))) ∧ (Kd.R k57 57 w' w.heap.size (fun k_ => some k_ ≠ (.slice (some ad263) x3_2.length co36 : Value).ownBlock ∧ k_ ≠ s_.1.2) s_.1.1 t264) ∧ (Kd.R k57 57 w' w.heap.size (fun k_ => some k_ ≠ (s_.1.1 : Value).ownBlock ∧ k_ ≠ s_.1.2) (.slice (some ad263) x3_2.length co36) x3_2) ∧ (w'.heap[s_.1.2]? = some (.cells #[.int .i64 0, .int .i64 0, .int .i64 0] 57 (0, 0))) ∧ (w.heap.size ≤ s_.1.2) ∧ (w.heap.size ≤ s_.1.2) ∧ (Below w.heap.size w w') ∧ (∃ c9_, s_.1.1 = Value.slice (some s_.2) t264.length c9_)) ?_ ?_
      rotate_left
      ·intro hCont
       refine two_ (i := 4) (j := 9) (Ni := some 25) (Nj := some 6) #[true, true, true, true, true, true, false, false, false, false, false] #[true, true, true, true, false, true, false, false, false, true, false] rfl rfl rfl rfl (two_of HT_.out (by kernel_rfl)) (by decide) (by decide) (fun K hK => ?_) (fun K hK => ?_)
       ·skip
        refine goes_ Try.func79 (by kernel_rfl) rfl #[] (by rfl) rfl rfl zm ?_
        with_reducible refine (spec_l09Steps.calls  t264 _ A10.out).mono ?_
        rintro e w37 ⟨v265, rfl, ho0, hb⟩
        have HS0_ := (hb.cell (World.block_lt_of_cell? _ _ (hHeld.1))).trans (hHeld.1)
        have HS1_ := (hb.cell (World.block_lt_of_cell? _ _ (hHeld.2.1))).trans (hHeld.2.1)
        have HS2_ := (hb.cell (World.block_lt_of_cell? _ _ (hHeld.2.2))).trans (hHeld.2.2)
        refine ⟨_, rfl, ?_⟩
        have n0_ := aM (Kd.R_elder' (mR_ HO_3.out) (Kd.R_base ho0) hb)
        have n1_ := aM (Kd.R_lower (Kd.R_new' ho0 (Kd.R_lt (mR_ HO_3.out))) (below_size zb))
        have n2_ := aM (below_step zb hb)
        clear HO_3
        clear HB
        have HO_3 := n0_
        have HO266 := n1_
        have HB := n2_
        clear n0_ n1_ n2_
        (try clear hb)
        (try clear hb2)
        (try clear hk)
        (try clear hi)
        (try clear ho0)
        obtain ⟨Ao38, co38, eo38⟩ := Kd.R_slice HO266.out
        (first | subst eo38 | (injection eo38 with f1_ f2_ f3_; have f4_ := f1_.symm; have f5_ := f3_.symm; clear f1_ f2_ f3_; subst f4_; subst f5_))
        have p267 : 0 ≤ (x5_2 : Int) := of_decide_eq_true za
        have q267 : x5_2 < (t264.length : Int) := of_decide_eq_true za
        obtain ⟨ad267, e267, hx267_0, hx267_1, hx267_2⟩ := at_T57 (Kd.R_reads' HO266.out).2.2 x5_2 p267 q267
        cases e267
        replace p267 := eq_true p267
        replace q267 := eq_true q267
        refine hK.out _ _ ⟨HS0_, HS1_, HS2_⟩ (fun hHeld => ?_)
        clear hK K
        refine more_ (S' := fun w' => w'.cell? (ad263.add ((x4_1).toNat * 3)) = some (.int .i64 ((rd_T57 x3_2 x4_1).f0)) ∧ w'.cell? ⟨(ad263.add ((x4_1).toNat * 3)).block, (ad263.add ((x4_1).toNat * 3)).off + 1, none⟩ = some (.int .i64 ((rd_T57 x3_2 x4_1).f1)) ∧ w'.cell? ⟨(ad263.add ((x4_1).toNat * 3)).block, (ad263.add ((x4_1).toNat * 3)).off + 2, none⟩ = some (.int .i64 ((rd_T57 x3_2 x4_1).f2)) ∧ w'.cell? (ad267.add ((x5_2).toNat * 3)) = some (.int .i64 ((rd_T57 t264 x5_2).f0)) ∧ w'.cell? ⟨(ad267.add ((x5_2).toNat * 3)).block, (ad267.add ((x5_2).toNat * 3)).off + 1, none⟩ = some (.int .i64 ((rd_T57 t264 x5_2).f1)) ∧ w'.cell? ⟨(ad267.add ((x5_2).toNat * 3)).block, (ad267.add ((x5_2).toNat * 3)).off + 2, none⟩ = some (.int .i64 ((rd_T57 t264 x5_2).f2))) (fun _ h_ => ⟨h_.1, h_.2.1, h_.2.2.1⟩) ⟨hHeld.1, hHeld.2.1, hHeld.2.2, hx267_0, hx267_1, hx267_2⟩ (fun hHeld => ?_)
        refine norm_ (a' := ?_) ?_ ?_
        rotate_left
        ·show Act.put _ (some 25) _ = _
         simp only [Act.put, xA, xB, xC, i64_w, i32_w]
         rfl
        refine pure_ (i := 6) (N := some 27) (v := ?_) (a' := ?_) #[true, true, true, true, true, true, true, false, false, false, false] rfl rfl zz (fun _ _ _ h => h) (Or.inl ⟨by rfl, ?_⟩) ?_ ?_
        rotate_left
        ·intro w'
         go_simp
         with_reducible rfl
        rotate_left
        ·simp only [Act.put, xA, xB, xC, i64_w, i32_w]
         rfl
        refine take_ (i := 7) (N := some 28) (v := ?_) (a' := ?_) #[true, true, true, true, true, true, true, true, false, false, false] rfl rfl (take_ofW HT_.out HW_.out (by kernel_rfl)) (fun _ _ _ h => h) (Or.inl ⟨by rfl, ?_⟩) hHeld ?_ ?_
        rotate_left
        ·rintro w' ⟨s0, s1, s2, s3, s4, s5⟩
         go_simp
         with_reducible rfl
        rotate_left
        ·simp only [Act.put, xA, xB, xC, i64_w, i32_w]
         rfl
        refine two_ (i := 8) (j := 9) (Ni := some 29) (Nj := some 6) #[true, true, true, true, true, true, true, true, true, false, false] #[true, true, true, true, true, true, true, true, false, true, false] rfl rfl rfl rfl (two_of HT_.out (by kernel_rfl)) (by decide) (by decide) (fun K hK => ?_) (fun K hK => ?_)
        ·skip
         refine goes_ Try.func78 (by kernel_rfl) rfl #[.agg #[.int .i64 ((rd_T57 x3_2 x4_1).f0), .int .i64 ((rd_T57 x3_2 x4_1).f1), .int .i64 ((rd_T57 x3_2 x4_1).f2)], .agg #[.int .i64 ((rd_T57 t264 x5_2).f0), .int .i64 ((rd_T57 t264 x5_2).f1), .int .i64 ((rd_T57 t264 x5_2).f2)]] (by rfl) rfl rfl zm ?_
         with_reducible refine (spec_l09Add.calls ((rd_T57 x3_2 x4_1).f0) ((rd_T57 x3_2 x4_1).f1) ((rd_T57 x3_2 x4_1).f2) ((rd_T57 t264 x5_2).f0) ((rd_T57 t264 x5_2).f1) ((rd_T57 t264 x5_2).f2) t268 t269 t270 _ A13.out).mono ?_
         rintro e w39 ⟨rfl, hb⟩
         have HS0_ := (hb.cell (World.block_lt_of_cell? _ _ (hHeld.1))).trans (hHeld.1)
         have HS1_ := (hb.cell (World.block_lt_of_cell? _ _ (hHeld.2.1))).trans (hHeld.2.1)
         have HS2_ := (hb.cell (World.block_lt_of_cell? _ _ (hHeld.2.2.1))).trans (hHeld.2.2.1)
         have HS3_ := (hb.cell (World.block_lt_of_cell? _ _ (hHeld.2.2.2.1))).trans (hHeld.2.2.2.1)
         have HS4_ := (hb.cell (World.block_lt_of_cell? _ _ (hHeld.2.2.2.2.1))).trans (hHeld.2.2.2.2.1)
         have HS5_ := (hb.cell (World.block_lt_of_cell? _ _ (hHeld.2.2.2.2.2))).trans (hHeld.2.2.2.2.2)
         refine ⟨_, rfl, ?_⟩
         have n0_ := aM (Kd.R_below (mR_ HO_3.out) hb)
         have n1_ := aM (Kd.R_below (mR_ HO266.out) hb)
         have n2_ := aM (below_step zb hb)
         clear HO_3
         clear HO266
         clear HB
         have HO_3 := n0_
         have HO266 := n1_
         have HB := n2_
         clear n0_ n1_ n2_
         (try clear hb)
         (try clear hb2)
         (try clear hk)
         (try clear hi)
         refine hK.out _ _ ⟨HS0_, HS1_, HS2_, HS3_, HS4_, HS5_⟩ (fun hHeld => ?_)
         clear hK K
         refine norm_ (a' := ?_) ?_ ?_
         rotate_left
         ·show Act.put _ (some 29) _ = _
          simp only [Act.put, xA, xB, xC, i64_w, i32_w]
          rfl
         refine one_ (i := 9) (N := some 6) #[true, true, true, true, true, true, true, true, true, true, false] rfl rfl (one_of HT_.out (by kernel_rfl)) (by decide) (fun K hK => ?_)
         refine box_step ?hg (N := 6) ?hd (cs := #[.int .i64 0, .int .i64 0, .int .i64 0]) (t := 57) ?hr ?_; (case hd => rfl); (case hg => rfl); (case hr => first | (go_simp; done) | (go_simp; rfl))
         intro gb271 hg w40 hbox hb
         have HS0_ := (hb.cell (World.block_lt_of_cell? _ _ (hHeld.1))).trans (hHeld.1)
         have HS1_ := (hb.cell (World.block_lt_of_cell? _ _ (hHeld.2.1))).trans (hHeld.2.1)
         have HS2_ := (hb.cell (World.block_lt_of_cell? _ _ (hHeld.2.2.1))).trans (hHeld.2.2.1)
         have HS3_ := (hb.cell (World.block_lt_of_cell? _ _ (hHeld.2.2.2.1))).trans (hHeld.2.2.2.1)
         have HS4_ := (hb.cell (World.block_lt_of_cell? _ _ (hHeld.2.2.2.2.1))).trans (hHeld.2.2.2.2.1)
         have HS5_ := (hb.cell (World.block_lt_of_cell? _ _ (hHeld.2.2.2.2.2))).trans (hHeld.2.2.2.2.2)
         have n0_ := aM (Kd.R_below (Kd.R_elderB (mR_ HO_3.out) gb271 (Nat.le_of_eq hg.symm)) hb)
         have n1_ := aM (Kd.R_below (Kd.R_elderB (mR_ HO266.out) gb271 (Nat.le_of_eq hg.symm)) hb)
         have n2_ := aM (below_step zb hb)
         have n3_ := aM (hbox)
         have n4_ := aM ((ze : w.heap.size ≤ gb271))
         have n5_ := aM ((ze : w.heap.size ≤ gb271))
         clear HO_3
         clear HO266
         clear HB
         have HO_3 := n0_
         have HO266 := n1_
         have HB := n2_
         have BK271 := n3_
         have GW271 := n4_
         have GE271 := n5_
         clear n0_ n1_ n2_ n3_ n4_ n5_
         clear hb hbox hg
         refine hK.out _ _ ⟨HS0_, HS1_, HS2_, HS3_, HS4_, HS5_⟩ (fun hHeld => ?_)
         clear hK K
         refine norm_ (a' := ?_) ?_ ?_
         rotate_left
         ·show Act.put _ (some 6) _ = _
          simp only [Act.put, xA, xB, xC, i64_w, i32_w]
          rfl
         exact norm_ (by simp only [putAll, Act.put, xA, xB, xC]) (hCont ((.slice (some ad267) t264.length co38, gb271), ad267) _ ⟨hHeld, (by (with_reducible repeat (first | apply Kd.R_alloc | apply Kd.R_drewN | apply Kd.R_drew)); exact Kd.R_mono HO266.out (fun _ hk => ⟨hk.1.2, hk.2⟩)), (by (with_reducible repeat (first | apply Kd.R_alloc | apply Kd.R_drewN | apply Kd.R_drew)); exact Kd.R_mono HO_3.out (fun _ hk => ⟨hk.1.2, hk.2⟩)), (mB_ BK271.out), GW271.out, GE271.out, (zs GE271.out), ⟨_, rfl⟩⟩)
        ·skip
         refine box_step ?hg (N := 6) ?hd (cs := #[.int .i64 0, .int .i64 0, .int .i64 0]) (t := 57) ?hr ?_; (case hd => rfl); (case hg => rfl); (case hr => first | (go_simp; done) | (go_simp; rfl))
         intro gb271 hg w39 hbox hb
         have HS0_ := (hb.cell (World.block_lt_of_cell? _ _ (hHeld.1))).trans (hHeld.1)
         have HS1_ := (hb.cell (World.block_lt_of_cell? _ _ (hHeld.2.1))).trans (hHeld.2.1)
         have HS2_ := (hb.cell (World.block_lt_of_cell? _ _ (hHeld.2.2.1))).trans (hHeld.2.2.1)
         have HS3_ := (hb.cell (World.block_lt_of_cell? _ _ (hHeld.2.2.2.1))).trans (hHeld.2.2.2.1)
         have HS4_ := (hb.cell (World.block_lt_of_cell? _ _ (hHeld.2.2.2.2.1))).trans (hHeld.2.2.2.2.1)
         have HS5_ := (hb.cell (World.block_lt_of_cell? _ _ (hHeld.2.2.2.2.2))).trans (hHeld.2.2.2.2.2)
         have n0_ := aM (Kd.R_below (Kd.R_elderB (mR_ HO_3.out) gb271 (Nat.le_of_eq hg.symm)) hb)
         have n1_ := aM (Kd.R_below (Kd.R_elderB (mR_ HO266.out) gb271 (Nat.le_of_eq hg.symm)) hb)
         have n2_ := aM (below_step zb hb)
         have n3_ := aM (hbox)
         have n4_ := aM ((ze : w.heap.size ≤ gb271))
         have n5_ := aM ((ze : w.heap.size ≤ gb271))
         clear HO_3
         clear HO266
         clear HB
         have HO_3 := n0_
         have HO266 := n1_
         have HB := n2_
         have BK271 := n3_
         have GW271 := n4_
         have GE271 := n5_
         clear n0_ n1_ n2_ n3_ n4_ n5_
         clear hb hbox hg
         refine hK.out _ _ ⟨HS0_, HS1_, HS2_, HS3_, HS4_, HS5_⟩ (fun hHeld => ?_)
         clear hK K
         refine norm_ (a' := ?_) ?_ ?_
         rotate_left
         ·show Act.put _ (some 6) _ = _
          simp only [Act.put, xA, xB, xC, i64_w, i32_w]
          rfl
         refine one_ (i := 8) (N := some 29) #[true, true, true, true, true, true, true, true, true, true, false] rfl rfl (one_of HT_.out (by kernel_rfl)) (by decide) (fun K hK => ?_)
         refine goes_ Try.func78 (by kernel_rfl) rfl #[.agg #[.int .i64 ((rd_T57 x3_2 x4_1).f0), .int .i64 ((rd_T57 x3_2 x4_1).f1), .int .i64 ((rd_T57 x3_2 x4_1).f2)], .agg #[.int .i64 ((rd_T57 t264 x5_2).f0), .int .i64 ((rd_T57 t264 x5_2).f1), .int .i64 ((rd_T57 t264 x5_2).f2)]] (by rfl) rfl rfl zm ?_
         with_reducible refine (spec_l09Add.calls ((rd_T57 x3_2 x4_1).f0) ((rd_T57 x3_2 x4_1).f1) ((rd_T57 x3_2 x4_1).f2) ((rd_T57 t264 x5_2).f0) ((rd_T57 t264 x5_2).f1) ((rd_T57 t264 x5_2).f2) t268 t269 t270 _ A13.out).mono ?_
         rintro e w40 ⟨rfl, hb⟩
         have HS0_ := (hb.cell (World.block_lt_of_cell? _ _ (hHeld.1))).trans (hHeld.1)
         have HS1_ := (hb.cell (World.block_lt_of_cell? _ _ (hHeld.2.1))).trans (hHeld.2.1)
         have HS2_ := (hb.cell (World.block_lt_of_cell? _ _ (hHeld.2.2.1))).trans (hHeld.2.2.1)
         have HS3_ := (hb.cell (World.block_lt_of_cell? _ _ (hHeld.2.2.2.1))).trans (hHeld.2.2.2.1)
         have HS4_ := (hb.cell (World.block_lt_of_cell? _ _ (hHeld.2.2.2.2.1))).trans (hHeld.2.2.2.2.1)
         have HS5_ := (hb.cell (World.block_lt_of_cell? _ _ (hHeld.2.2.2.2.2))).trans (hHeld.2.2.2.2.2)
         refine ⟨_, rfl, ?_⟩
         have n0_ := aM (Kd.R_below (mR_ HO_3.out) hb)
         have n1_ := aM (Kd.R_below (mR_ HO266.out) hb)
         have n2_ := aM (blk_below (g := gb271) (o := .cells #[.int .i64 0, .int .i64 0, .int .i64 0] 57 (0, 0)) (mB_ BK271.out) hb)
         have n3_ := aM (below_step (zs GE271.out) hb)
         clear HO_3
         clear HO266
         clear BK271
         clear HB
         have HO_3 := n0_
         have HO266 := n1_
         have BK271 := n2_
         have HB := n3_
         clear n0_ n1_ n2_ n3_
         (try clear hb)
         (try clear hb2)
         (try clear hk)
         (try clear hi)
         refine hK.out _ _ ⟨HS0_, HS1_, HS2_, HS3_, HS4_, HS5_⟩ (fun hHeld => ?_)
         clear hK K
         refine norm_ (a' := ?_) ?_ ?_
         rotate_left
         ·show Act.put _ (some 29) _ = _
          simp only [Act.put, xA, xB, xC, i64_w, i32_w]
          rfl
         exact norm_ (by simp only [putAll, Act.put, xA, xB, xC]) (hCont ((.slice (some ad267) t264.length co38, gb271), ad267) _ ⟨hHeld, (by (with_reducible repeat (first | apply Kd.R_alloc | apply Kd.R_drewN | apply Kd.R_drew)); exact Kd.R_mono HO266.out (fun _ hk => ⟨hk.1.2, hk.2⟩)), (by (with_reducible repeat (first | apply Kd.R_alloc | apply Kd.R_drewN | apply Kd.R_drew)); exact Kd.R_mono HO_3.out (fun _ hk => ⟨hk.1.2, hk.2⟩)), (mB_ BK271.out), GW271.out, GE271.out, (zs GE271.out), ⟨_, rfl⟩⟩)
       ·skip
        refine box_step ?hg (N := 6) ?hd (cs := #[.int .i64 0, .int .i64 0, .int .i64 0]) (t := 57) ?hr ?_; (case hd => rfl); (case hg => rfl); (case hr => first | (go_simp; done) | (go_simp; rfl))
        intro gb271 hg w37 hbox hb
        have HS0_ := (hb.cell (World.block_lt_of_cell? _ _ (hHeld.1))).trans (hHeld.1)
        have HS1_ := (hb.cell (World.block_lt_of_cell? _ _ (hHeld.2.1))).trans (hHeld.2.1)
        have HS2_ := (hb.cell (World.block_lt_of_cell? _ _ (hHeld.2.2))).trans (hHeld.2.2)
        have n0_ := aM (Kd.R_below (Kd.R_elderB (mR_ HO_3.out) gb271 (Nat.le_of_eq hg.symm)) hb)
        have n1_ := aM (below_step zb hb)
        have n2_ := aM (hbox)
        have n3_ := aM ((ze : w.heap.size ≤ gb271))
        have n4_ := aM ((ze : w.heap.size ≤ gb271))
        clear HO_3
        clear HB
        have HO_3 := n0_
        have HB := n1_
        have BK271 := n2_
        have GW271 := n3_
        have GE271 := n4_
        clear n0_ n1_ n2_ n3_ n4_
        clear hb hbox hg
        refine hK.out _ _ ⟨HS0_, HS1_, HS2_⟩ (fun hHeld => ?_)
        clear hK K
        refine norm_ (a' := ?_) ?_ ?_
        rotate_left
        ·show Act.put _ (some 6) _ = _
         simp only [Act.put, xA, xB, xC, i64_w, i32_w]
         rfl
        refine one_ (i := 4) (N := some 25) #[true, true, true, true, true, true, false, false, false, true, false] rfl rfl (one_of HT_.out (by kernel_rfl)) (by decide) (fun K hK => ?_)
        refine goes_ Try.func79 (by kernel_rfl) rfl #[] (by rfl) rfl rfl zm ?_
        with_reducible refine (spec_l09Steps.calls  t264 _ A10.out).mono ?_
        rintro e w38 ⟨v265, rfl, ho0, hb⟩
        have HS0_ := (hb.cell (World.block_lt_of_cell? _ _ (hHeld.1))).trans (hHeld.1)
        have HS1_ := (hb.cell (World.block_lt_of_cell? _ _ (hHeld.2.1))).trans (hHeld.2.1)
        have HS2_ := (hb.cell (World.block_lt_of_cell? _ _ (hHeld.2.2))).trans (hHeld.2.2)
        refine ⟨_, rfl, ?_⟩
        have n0_ := aM (Kd.R_elder' (mR_ HO_3.out) (Kd.R_base ho0) hb)
        have n1_ := aM (Kd.R_lower (Kd.R_newB (Kd.R_new' ho0 (Kd.R_lt (mR_ HO_3.out))) (g := gb271) (o := .cells #[.int .i64 0, .int .i64 0, .int .i64 0] 57 (0, 0)) (mB_ BK271.out)) (below_size (zs GE271.out)))
        have n2_ := aM (blk_below (g := gb271) (o := .cells #[.int .i64 0, .int .i64 0, .int .i64 0] 57 (0, 0)) (mB_ BK271.out) hb)
        have n3_ := aM (below_step (zs GE271.out) hb)
        clear HO_3
        clear BK271
        clear HB
        have HO_3 := n0_
        have HO266 := n1_
        have BK271 := n2_
        have HB := n3_
        clear n0_ n1_ n2_ n3_
        (try clear hb)
        (try clear hb2)
        (try clear hk)
        (try clear hi)
        (try clear ho0)
        obtain ⟨Ao39, co39, eo39⟩ := Kd.R_slice HO266.out
        (first | subst eo39 | (injection eo39 with f1_ f2_ f3_; have f4_ := f1_.symm; have f5_ := f3_.symm; clear f1_ f2_ f3_; subst f4_; subst f5_))
        have p267 : 0 ≤ (x5_2 : Int) := of_decide_eq_true za
        have q267 : x5_2 < (t264.length : Int) := of_decide_eq_true za
        obtain ⟨ad267, e267, hx267_0, hx267_1, hx267_2⟩ := at_T57 (Kd.R_reads' HO266.out).2.2 x5_2 p267 q267
        cases e267
        replace p267 := eq_true p267
        replace q267 := eq_true q267
        refine hK.out _ _ ⟨HS0_, HS1_, HS2_⟩ (fun hHeld => ?_)
        clear hK K
        refine more_ (S' := fun w' => w'.cell? (ad263.add ((x4_1).toNat * 3)) = some (.int .i64 ((rd_T57 x3_2 x4_1).f0)) ∧ w'.cell? ⟨(ad263.add ((x4_1).toNat * 3)).block, (ad263.add ((x4_1).toNat * 3)).off + 1, none⟩ = some (.int .i64 ((rd_T57 x3_2 x4_1).f1)) ∧ w'.cell? ⟨(ad263.add ((x4_1).toNat * 3)).block, (ad263.add ((x4_1).toNat * 3)).off + 2, none⟩ = some (.int .i64 ((rd_T57 x3_2 x4_1).f2)) ∧ w'.cell? (ad267.add ((x5_2).toNat * 3)) = some (.int .i64 ((rd_T57 t264 x5_2).f0)) ∧ w'.cell? ⟨(ad267.add ((x5_2).toNat * 3)).block, (ad267.add ((x5_2).toNat * 3)).off + 1, none⟩ = some (.int .i64 ((rd_T57 t264 x5_2).f1)) ∧ w'.cell? ⟨(ad267.add ((x5_2).toNat * 3)).block, (ad267.add ((x5_2).toNat * 3)).off + 2, none⟩ = some (.int .i64 ((rd_T57 t264 x5_2).f2))) (fun _ h_ => ⟨h_.1, h_.2.1, h_.2.2.1⟩) ⟨hHeld.1, hHeld.2.1, hHeld.2.2, hx267_0, hx267_1, hx267_2⟩ (fun hHeld => ?_)
        refine norm_ (a' := ?_) ?_ ?_
        rotate_left
        ·show Act.put _ (some 25) _ = _
         simp only [Act.put, xA, xB, xC, i64_w, i32_w]
         rfl
        refine pure_ (i := 6) (N := some 27) (v := ?_) (a' := ?_) #[true, true, true, true, true, true, true, false, false, true, false] rfl rfl zz (fun _ _ _ h => h) (Or.inl ⟨by rfl, ?_⟩) ?_ ?_
        rotate_left
        ·intro w'
         go_simp
         with_reducible rfl
        rotate_left
        ·simp only [Act.put, xA, xB, xC, i64_w, i32_w]
         rfl
        refine take_ (i := 7) (N := some 28) (v := ?_) (a' := ?_) #[true, true, true, true, true, true, true, true, false, true, false] rfl rfl (take_ofW HT_.out HW_.out (by kernel_rfl)) (fun _ _ _ h => h) (Or.inl ⟨by rfl, ?_⟩) hHeld ?_ ?_
        rotate_left
        ·rintro w' ⟨s0, s1, s2, s3, s4, s5⟩
         go_simp
         with_reducible rfl
        rotate_left
        ·simp only [Act.put, xA, xB, xC, i64_w, i32_w]
         rfl
        refine one_ (i := 8) (N := some 29) #[true, true, true, true, true, true, true, true, true, true, false] rfl rfl (one_of HT_.out (by kernel_rfl)) (by decide) (fun K hK => ?_)
        refine goes_ Try.func78 (by kernel_rfl) rfl #[.agg #[.int .i64 ((rd_T57 x3_2 x4_1).f0), .int .i64 ((rd_T57 x3_2 x4_1).f1), .int .i64 ((rd_T57 x3_2 x4_1).f2)], .agg #[.int .i64 ((rd_T57 t264 x5_2).f0), .int .i64 ((rd_T57 t264 x5_2).f1), .int .i64 ((rd_T57 t264 x5_2).f2)]] (by rfl) rfl rfl zm ?_
        with_reducible refine (spec_l09Add.calls ((rd_T57 x3_2 x4_1).f0) ((rd_T57 x3_2 x4_1).f1) ((rd_T57 x3_2 x4_1).f2) ((rd_T57 t264 x5_2).f0) ((rd_T57 t264 x5_2).f1) ((rd_T57 t264 x5_2).f2) t268 t269 t270 _ A13.out).mono ?_
        rintro e w40 ⟨rfl, hb⟩
        have HS0_ := (hb.cell (World.block_lt_of_cell? _ _ (hHeld.1))).trans (hHeld.1)
        have HS1_ := (hb.cell (World.block_lt_of_cell? _ _ (hHeld.2.1))).trans (hHeld.2.1)
        have HS2_ := (hb.cell (World.block_lt_of_cell? _ _ (hHeld.2.2.1))).trans (hHeld.2.2.1)
        have HS3_ := (hb.cell (World.block_lt_of_cell? _ _ (hHeld.2.2.2.1))).trans (hHeld.2.2.2.1)
        have HS4_ := (hb.cell (World.block_lt_of_cell? _ _ (hHeld.2.2.2.2.1))).trans (hHeld.2.2.2.2.1)
        have HS5_ := (hb.cell (World.block_lt_of_cell? _ _ (hHeld.2.2.2.2.2))).trans (hHeld.2.2.2.2.2)
        refine ⟨_, rfl, ?_⟩
        have n0_ := aM (Kd.R_below (mR_ HO_3.out) hb)
        have n1_ := aM (Kd.R_below (mR_ HO266.out) hb)
        have n2_ := aM (blk_below (g := gb271) (o := .cells #[.int .i64 0, .int .i64 0, .int .i64 0] 57 (0, 0)) (mB_ BK271.out) hb)
        have n3_ := aM (below_step (zs GE271.out) hb)
        clear HO_3
        clear HO266
        clear BK271
        clear HB
        have HO_3 := n0_
        have HO266 := n1_
        have BK271 := n2_
        have HB := n3_
        clear n0_ n1_ n2_ n3_
        (try clear hb)
        (try clear hb2)
        (try clear hk)
        (try clear hi)
        refine hK.out _ _ ⟨HS0_, HS1_, HS2_, HS3_, HS4_, HS5_⟩ (fun hHeld => ?_)
        clear hK K
        refine norm_ (a' := ?_) ?_ ?_
        rotate_left
        ·show Act.put _ (some 29) _ = _
         simp only [Act.put, xA, xB, xC, i64_w, i32_w]
         rfl
        exact norm_ (by simp only [putAll, Act.put, xA, xB, xC]) (hCont ((.slice (some ad267) t264.length co39, gb271), ad267) _ ⟨hHeld, (by (with_reducible repeat (first | apply Kd.R_alloc | apply Kd.R_drewN | apply Kd.R_drew)); exact Kd.R_mono HO266.out (fun _ hk => ⟨hk.1.2, hk.2⟩)), (by (with_reducible repeat (first | apply Kd.R_alloc | apply Kd.R_drewN | apply Kd.R_drew)); exact Kd.R_mono HO_3.out (fun _ hk => ⟨hk.2, hk.1.2⟩)), (mB_ BK271.out), GW271.out, GE271.out, (zs GE271.out), ⟨_, rfl⟩⟩)
      rintro ⟨⟨v265, gb271⟩, ad267⟩ w41 ⟨hS_, h0_, h1_, h2_, h3_, h4_, h5_, ⟨c9_, h9_⟩⟩
      replace h9_ : v265 = Value.slice (some ad267) t264.length c9_ := h9_
      subst h9_
      refine more_ (S' := fun w' => w'.cell? (ad263.add ((x4_1).toNat * 3)) = some (.int .i64 ((rd_T57 x3_2 x4_1).f0)) ∧ w'.cell? ⟨(ad263.add ((x4_1).toNat * 3)).block, (ad263.add ((x4_1).toNat * 3)).off + 1, none⟩ = some (.int .i64 ((rd_T57 x3_2 x4_1).f1)) ∧ w'.cell? ⟨(ad263.add ((x4_1).toNat * 3)).block, (ad263.add ((x4_1).toNat * 3)).off + 2, none⟩ = some (.int .i64 ((rd_T57 x3_2 x4_1).f2)) ∧ w'.cell? (ad267.add ((x5_2).toNat * 3)) = some (.int .i64 ((rd_T57 t264 x5_2).f0)) ∧ w'.cell? ⟨(ad267.add ((x5_2).toNat * 3)).block, (ad267.add ((x5_2).toNat * 3)).off + 1, none⟩ = some (.int .i64 ((rd_T57 t264 x5_2).f1)) ∧ w'.cell? ⟨(ad267.add ((x5_2).toNat * 3)).block, (ad267.add ((x5_2).toNat * 3)).off + 2, none⟩ = some (.int .i64 ((rd_T57 t264 x5_2).f2))) (fun _ h_ => h_) hS_ (fun hS_ => ?_)
      have n0_ : Aside0 (Kd.R k57 57 w41 w.heap.size (fun k_ => some k_ ≠ (.slice (some ad263) x3_2.length co36 : Value).ownBlock ∧ k_ ≠ gb271) (.slice (some ad267) t264.length c9_) t264) := ⟨h0_⟩
      have n1_ : Aside0 (Kd.R k57 57 w41 w.heap.size (fun k_ => some k_ ≠ ((.slice (some ad267) t264.length c9_) : Value).ownBlock ∧ k_ ≠ gb271) (.slice (some ad263) x3_2.length co36) x3_2) := ⟨h1_⟩
      have n2_ : Aside0 (w41.heap[gb271]? = some (.cells #[.int .i64 0, .int .i64 0, .int .i64 0] 57 (0, 0))) := ⟨h2_⟩
      have n3_ : Aside0 (w.heap.size ≤ gb271) := ⟨h3_⟩
      have n4_ : Aside0 (w.heap.size ≤ gb271) := ⟨h4_⟩
      have n5_ : Aside0 (Below w.heap.size w w41) := ⟨h5_⟩
      clear HO_3
      clear HB
      clear h0_ h1_ h2_ h3_ h4_ h5_
      have HO266 := n0_
      have HO_3 := n1_
      have BK271 := n2_
      have GW271 := n3_
      have GE271 := n4_
      have HB := n5_
      clear n0_ n1_ n2_ n3_ n4_ n5_
      have hHeld : w41.cell? (ad263.add ((x4_1).toNat * 3)) = some (.int .i64 ((rd_T57 x3_2 x4_1).f0)) ∧ w41.cell? ⟨(ad263.add ((x4_1).toNat * 3)).block, (ad263.add ((x4_1).toNat * 3)).off + 1, none⟩ = some (.int .i64 ((rd_T57 x3_2 x4_1).f1)) ∧ w41.cell? ⟨(ad263.add ((x4_1).toNat * 3)).block, (ad263.add ((x4_1).toNat * 3)).off + 2, none⟩ = some (.int .i64 ((rd_T57 x3_2 x4_1).f2)) ∧ w41.cell? (ad267.add ((x5_2).toNat * 3)) = some (.int .i64 ((rd_T57 t264 x5_2).f0)) ∧ w41.cell? ⟨(ad267.add ((x5_2).toNat * 3)).block, (ad267.add ((x5_2).toNat * 3)).off + 1, none⟩ = some (.int .i64 ((rd_T57 t264 x5_2).f1)) ∧ w41.cell? ⟨(ad267.add ((x5_2).toNat * 3)).block, (ad267.add ((x5_2).toNat * 3)).off + 2, none⟩ = some (.int .i64 ((rd_T57 t264 x5_2).f2)) := hS_
      refine norm_ (a' := ?_) ?_ ?_
      rotate_left
      ·simp only [putAll, Act.put, xA, xB, xC]
       rfl
      refine one_ (i := 10) (N := none) #[true, true, true, true, true, true, true, true, true, true, true] rfl rfl (one_of HT_.out (by kernel_rfl)) (by decide) (fun K hK => ?_)
      have hs42 : w41.cell? ⟨gb271, 0, none⟩ = some (.int .i64 0) := (blk_cell BK271.out 0).trans rfl
      have hfs42 := blk_frozen BK271.out 0
      have hs43 : w41.cell? ⟨gb271, 1, none⟩ = some (.int .i64 0) := (blk_cell BK271.out 1).trans rfl
      have hfs43 := blk_frozen BK271.out 1
      have hs44 : w41.cell? ⟨gb271, 2, none⟩ = some (.int .i64 0) := (blk_cell BK271.out 2).trans rfl
      have hfs44 := blk_frozen BK271.out 2
      refine skip_ (w1 := ?_) (by rfl) rfl ?_ ?_
      rotate_left
      ·go_simp
       rfl
      refine hK.out _ _ ⟨((cell_far (p := ⟨gb271, _, none⟩) (by first | exact Kd.own_blk (Kd.R_away HO_3.out (fun _ hk => hk.2)) | (rw [add_block]; exact Kd.own_blk (Kd.R_away HO_3.out (fun _ hk => hk.2))) | (show (Addr.add _ _).block ≠ _; rw [add_block]; exact Kd.own_blk (Kd.R_away HO_3.out (fun _ hk => hk.2))) | (dsimp only; exact Kd.own_blk (Kd.R_away HO_3.out (fun _ hk => hk.2)))) _).trans (((cell_far (p := ⟨gb271, _, none⟩) (by first | exact Kd.own_blk (Kd.R_away HO_3.out (fun _ hk => hk.2)) | (rw [add_block]; exact Kd.own_blk (Kd.R_away HO_3.out (fun _ hk => hk.2))) | (show (Addr.add _ _).block ≠ _; rw [add_block]; exact Kd.own_blk (Kd.R_away HO_3.out (fun _ hk => hk.2))) | (dsimp only; exact Kd.own_blk (Kd.R_away HO_3.out (fun _ hk => hk.2)))) _).trans (((cell_far (p := ⟨gb271, _, none⟩) (by first | exact Kd.own_blk (Kd.R_away HO_3.out (fun _ hk => hk.2)) | (rw [add_block]; exact Kd.own_blk (Kd.R_away HO_3.out (fun _ hk => hk.2))) | (show (Addr.add _ _).block ≠ _; rw [add_block]; exact Kd.own_blk (Kd.R_away HO_3.out (fun _ hk => hk.2))) | (dsimp only; exact Kd.own_blk (Kd.R_away HO_3.out (fun _ hk => hk.2)))) _).trans (hHeld.1)))))), ((cell_far (p := ⟨gb271, _, none⟩) (by first | exact Kd.own_blk (Kd.R_away HO_3.out (fun _ hk => hk.2)) | (rw [add_block]; exact Kd.own_blk (Kd.R_away HO_3.out (fun _ hk => hk.2))) | (show (Addr.add _ _).block ≠ _; rw [add_block]; exact Kd.own_blk (Kd.R_away HO_3.out (fun _ hk => hk.2))) | (dsimp only; exact Kd.own_blk (Kd.R_away HO_3.out (fun _ hk => hk.2)))) _).trans (((cell_far (p := ⟨gb271, _, none⟩) (by first | exact Kd.own_blk (Kd.R_away HO_3.out (fun _ hk => hk.2)) | (rw [add_block]; exact Kd.own_blk (Kd.R_away HO_3.out (fun _ hk => hk.2))) | (show (Addr.add _ _).block ≠ _; rw [add_block]; exact Kd.own_blk (Kd.R_away HO_3.out (fun _ hk => hk.2))) | (dsimp only; exact Kd.own_blk (Kd.R_away HO_3.out (fun _ hk => hk.2)))) _).trans (((cell_far (p := ⟨gb271, _, none⟩) (by first | exact Kd.own_blk (Kd.R_away HO_3.out (fun _ hk => hk.2)) | (rw [add_block]; exact Kd.own_blk (Kd.R_away HO_3.out (fun _ hk => hk.2))) | (show (Addr.add _ _).block ≠ _; rw [add_block]; exact Kd.own_blk (Kd.R_away HO_3.out (fun _ hk => hk.2))) | (dsimp only; exact Kd.own_blk (Kd.R_away HO_3.out (fun _ hk => hk.2)))) _).trans (hHeld.2.1)))))), ((cell_far (p := ⟨gb271, _, none⟩) (by first | exact Kd.own_blk (Kd.R_away HO_3.out (fun _ hk => hk.2)) | (rw [add_block]; exact Kd.own_blk (Kd.R_away HO_3.out (fun _ hk => hk.2))) | (show (Addr.add _ _).block ≠ _; rw [add_block]; exact Kd.own_blk (Kd.R_away HO_3.out (fun _ hk => hk.2))) | (dsimp only; exact Kd.own_blk (Kd.R_away HO_3.out (fun _ hk => hk.2)))) _).trans (((cell_far (p := ⟨gb271, _, none⟩) (by first | exact Kd.own_blk (Kd.R_away HO_3.out (fun _ hk => hk.2)) | (rw [add_block]; exact Kd.own_blk (Kd.R_away HO_3.out (fun _ hk => hk.2))) | (show (Addr.add _ _).block ≠ _; rw [add_block]; exact Kd.own_blk (Kd.R_away HO_3.out (fun _ hk => hk.2))) | (dsimp only; exact Kd.own_blk (Kd.R_away HO_3.out (fun _ hk => hk.2)))) _).trans (((cell_far (p := ⟨gb271, _, none⟩) (by first | exact Kd.own_blk (Kd.R_away HO_3.out (fun _ hk => hk.2)) | (rw [add_block]; exact Kd.own_blk (Kd.R_away HO_3.out (fun _ hk => hk.2))) | (show (Addr.add _ _).block ≠ _; rw [add_block]; exact Kd.own_blk (Kd.R_away HO_3.out (fun _ hk => hk.2))) | (dsimp only; exact Kd.own_blk (Kd.R_away HO_3.out (fun _ hk => hk.2)))) _).trans (hHeld.2.2.1)))))), ((cell_far (p := ⟨gb271, _, none⟩) (by first | exact Kd.own_blk (Kd.R_away HO266.out (fun _ hk => hk.2)) | (rw [add_block]; exact Kd.own_blk (Kd.R_away HO266.out (fun _ hk => hk.2))) | (show (Addr.add _ _).block ≠ _; rw [add_block]; exact Kd.own_blk (Kd.R_away HO266.out (fun _ hk => hk.2))) | (dsimp only; exact Kd.own_blk (Kd.R_away HO266.out (fun _ hk => hk.2)))) _).trans (((cell_far (p := ⟨gb271, _, none⟩) (by first | exact Kd.own_blk (Kd.R_away HO266.out (fun _ hk => hk.2)) | (rw [add_block]; exact Kd.own_blk (Kd.R_away HO266.out (fun _ hk => hk.2))) | (show (Addr.add _ _).block ≠ _; rw [add_block]; exact Kd.own_blk (Kd.R_away HO266.out (fun _ hk => hk.2))) | (dsimp only; exact Kd.own_blk (Kd.R_away HO266.out (fun _ hk => hk.2)))) _).trans (((cell_far (p := ⟨gb271, _, none⟩) (by first | exact Kd.own_blk (Kd.R_away HO266.out (fun _ hk => hk.2)) | (rw [add_block]; exact Kd.own_blk (Kd.R_away HO266.out (fun _ hk => hk.2))) | (show (Addr.add _ _).block ≠ _; rw [add_block]; exact Kd.own_blk (Kd.R_away HO266.out (fun _ hk => hk.2))) | (dsimp only; exact Kd.own_blk (Kd.R_away HO266.out (fun _ hk => hk.2)))) _).trans (hHeld.2.2.2.1)))))), ((cell_far (p := ⟨gb271, _, none⟩) (by first | exact Kd.own_blk (Kd.R_away HO266.out (fun _ hk => hk.2)) | (rw [add_block]; exact Kd.own_blk (Kd.R_away HO266.out (fun _ hk => hk.2))) | (show (Addr.add _ _).block ≠ _; rw [add_block]; exact Kd.own_blk (Kd.R_away HO266.out (fun _ hk => hk.2))) | (dsimp only; exact Kd.own_blk (Kd.R_away HO266.out (fun _ hk => hk.2)))) _).trans (((cell_far (p := ⟨gb271, _, none⟩) (by first | exact Kd.own_blk (Kd.R_away HO266.out (fun _ hk => hk.2)) | (rw [add_block]; exact Kd.own_blk (Kd.R_away HO266.out (fun _ hk => hk.2))) | (show (Addr.add _ _).block ≠ _; rw [add_block]; exact Kd.own_blk (Kd.R_away HO266.out (fun _ hk => hk.2))) | (dsimp only; exact Kd.own_blk (Kd.R_away HO266.out (fun _ hk => hk.2)))) _).trans (((cell_far (p := ⟨gb271, _, none⟩) (by first | exact Kd.own_blk (Kd.R_away HO266.out (fun _ hk => hk.2)) | (rw [add_block]; exact Kd.own_blk (Kd.R_away HO266.out (fun _ hk => hk.2))) | (show (Addr.add _ _).block ≠ _; rw [add_block]; exact Kd.own_blk (Kd.R_away HO266.out (fun _ hk => hk.2))) | (dsimp only; exact Kd.own_blk (Kd.R_away HO266.out (fun _ hk => hk.2)))) _).trans (hHeld.2.2.2.2.1)))))), ((cell_far (p := ⟨gb271, _, none⟩) (by first | exact Kd.own_blk (Kd.R_away HO266.out (fun _ hk => hk.2)) | (rw [add_block]; exact Kd.own_blk (Kd.R_away HO266.out (fun _ hk => hk.2))) | (show (Addr.add _ _).block ≠ _; rw [add_block]; exact Kd.own_blk (Kd.R_away HO266.out (fun _ hk => hk.2))) | (dsimp only; exact Kd.own_blk (Kd.R_away HO266.out (fun _ hk => hk.2)))) _).trans (((cell_far (p := ⟨gb271, _, none⟩) (by first | exact Kd.own_blk (Kd.R_away HO266.out (fun _ hk => hk.2)) | (rw [add_block]; exact Kd.own_blk (Kd.R_away HO266.out (fun _ hk => hk.2))) | (show (Addr.add _ _).block ≠ _; rw [add_block]; exact Kd.own_blk (Kd.R_away HO266.out (fun _ hk => hk.2))) | (dsimp only; exact Kd.own_blk (Kd.R_away HO266.out (fun _ hk => hk.2)))) _).trans (((cell_far (p := ⟨gb271, _, none⟩) (by first | exact Kd.own_blk (Kd.R_away HO266.out (fun _ hk => hk.2)) | (rw [add_block]; exact Kd.own_blk (Kd.R_away HO266.out (fun _ hk => hk.2))) | (show (Addr.add _ _).block ≠ _; rw [add_block]; exact Kd.own_blk (Kd.R_away HO266.out (fun _ hk => hk.2))) | (dsimp only; exact Kd.own_blk (Kd.R_away HO266.out (fun _ hk => hk.2)))) _).trans (hHeld.2.2.2.2.2))))))⟩ (fun hHeld => ?_)
      clear hK K
      refine done_ (done_of HT_.out (by kernel_rfl)) ?_
      have hcz45_0 : w41.cell? ⟨gb271, 0, none⟩ = some (.int .i64 0) := (blk_cell BK271.out 0).trans rfl
      have hcz45_1 : w41.cell? ⟨gb271, 1, none⟩ = some (.int .i64 0) := (blk_cell BK271.out 1).trans rfl
      have hcz45_2 : w41.cell? ⟨gb271, 2, none⟩ = some (.int .i64 0) := (blk_cell BK271.out 2).trans rfl
      have hfz45_0 := blk_frozen BK271.out 0
      have hfz45_1 := blk_frozen BK271.out 1
      have hfz45_2 := blk_frozen BK271.out 2
      try go_wp2_with (first | ((with_reducible refine gate_callee (f := 77) rfl ?_); refine goesL_ (some 32) rfl rfl Try.func77 (by kernel_rfl) rfl #[.slice (some ad259) l0.length c0, .agg #[.int .i64 t268, .int .i64 t269, .int .i64 t270]] rfl zm ?_; (with_reducible refine (spec_l09Index.calls k2 _ _ l0 t268 t269 t270 t272 _ ?side1 ?side2 A14.out).mono ?_); (case side1 => exact Kd.C_below HR0.out (zs GE271.out)); (case side2 => exact HC0.out); rintro e w46 ⟨rfl, hb⟩; refine ⟨_, rfl, ?_⟩; have n0_ := aM (Kd.R_below (by (with_reducible repeat (first | apply Kd.R_alloc | apply Kd.R_drewN | apply Kd.R_drew)); exact (Kd.R_mono (Kd.R_far (p := ⟨gb271, 2, none⟩) (Kd.R_far (p := ⟨gb271, 1, none⟩) (Kd.R_far (p := ⟨gb271, 0, none⟩) (Kd.R_mono HO_3.out (fun k_ hk => (⟨hk, hk.2⟩ : _ ∧ k_ ≠ gb271))) (fun _ hk => hk.2) (.int .i64 t268)) (fun _ hk => hk.2) (.int .i64 t269)) (fun _ hk => hk.2) (.int .i64 t270)) (fun _ h_ => h_.1))) hb); have n1_ := aM (Kd.R_below (by (with_reducible repeat (first | apply Kd.R_alloc | apply Kd.R_drewN | apply Kd.R_drew)); exact (Kd.R_mono (Kd.R_far (p := ⟨gb271, 2, none⟩) (Kd.R_far (p := ⟨gb271, 1, none⟩) (Kd.R_far (p := ⟨gb271, 0, none⟩) (Kd.R_mono HO266.out (fun k_ hk => (⟨hk, hk.2⟩ : _ ∧ k_ ≠ gb271))) (fun _ hk => hk.2) (.int .i64 t268)) (fun _ hk => hk.2) (.int .i64 t269)) (fun _ hk => hk.2) (.int .i64 t270)) (fun _ h_ => h_.1))) hb); have n2_ := aM (blk_below (g := gb271) (o := .cells #[.int .i64 t268, .int .i64 t269, .int .i64 t270] 57 (0, 0)) (by (with_reducible repeat (first | refine blk_drewN ?_ _ | refine blk_drew ?_ | refine blk_alloc ?_ _)); refine blk_put (cs := #[.int .i64 t268, .int .i64 t269, .int .i64 0]) ?_ 2 _ rfl; (with_reducible repeat (first | refine blk_drewN ?_ _ | refine blk_drew ?_ | refine blk_alloc ?_ _)); refine blk_put (cs := #[.int .i64 t268, .int .i64 0, .int .i64 0]) ?_ 1 _ rfl; (with_reducible repeat (first | refine blk_drewN ?_ _ | refine blk_drew ?_ | refine blk_alloc ?_ _)); refine blk_put (cs := #[.int .i64 0, .int .i64 0, .int .i64 0]) ?_ 0 _ rfl; (with_reducible repeat (first | refine blk_drewN ?_ _ | refine blk_drew ?_ | refine blk_alloc ?_ _)); exact BK271.out) hb); have n3_ := aM (below_step (zs GE271.out) hb); clear HO_3; clear HO266; clear BK271; clear HB; have HO_3 := n0_; have HO266 := n1_; have BK271 := n2_; have HB := n3_; clear n0_ n1_ n2_ n3_; (try clear hb); (try clear hb2); (try clear hk); (try clear hi); have hcz47_0 : w46.cell? ⟨gb271, 0, none⟩ = some (.int .i64 t268) := (blk_cell BK271.out 0).trans rfl; have hcz47_1 : w46.cell? ⟨gb271, 1, none⟩ = some (.int .i64 t269) := (blk_cell BK271.out 1).trans rfl; have hcz47_2 : w46.cell? ⟨gb271, 2, none⟩ = some (.int .i64 t270) := (blk_cell BK271.out 2).trans rfl; have hfz47_0 := blk_frozen BK271.out 0; have hfz47_1 := blk_frozen BK271.out 1; have hfz47_2 := blk_frozen BK271.out 2) | (go_at_call 77; (with_reducible refine (spec_l09Index.calls k2 _ _ x3_2 t268 t269 t270 t273 _ ?side1 ?side2 A16.out).mono ?_); (case side1 => repeat (first | exact (Kd.R_reads' HO_3.out).2.2 | (with_reducible refine Kd.C_alloc ?_ _) | (with_reducible refine Kd.C_drewN ?_ _) | (with_reducible refine Kd.C_drew ?_))); (case side2 => exact (Kd.R_reads' HO_3.out).2.1); rintro e w48 ⟨rfl, hb⟩; have n0_ := aM (Kd.R_below (mR_ HO_3.out) hb); have n1_ := aM (Kd.R_below (mR_ HO266.out) hb); have n2_ := aM (blk_below (g := gb271) (o := .cells #[.int .i64 t268, .int .i64 t269, .int .i64 t270] 57 (0, 0)) (mB_ BK271.out) hb); have n3_ := aM (below_step (zs GE271.out) hb); clear HO_3; clear HO266; clear BK271; clear HB; have HO_3 := n0_; have HO266 := n1_; have BK271 := n2_; have HB := n3_; clear n0_ n1_ n2_ n3_; (try clear hb); (try clear hb2); (try clear hk); (try clear hi)))
      go_roundg k2
      case measure => have := HK1.out; have := HK2.out; omega
      case rel => exact ⟨(x3_2), (wrap64 (x5_2 + 1)), zr, H', ⟨by have := HK1.out; have := HK2.out; omega⟩, ⟨by (with_reducible repeat (first | apply Kd.R_alloc | apply Kd.R_drewN | apply Kd.R_drew)); exact Kd.R_mono HO_3.out (fun _ hk => trivial)⟩, ⟨zs GE271.out⟩⟩
     rw [if_pos c17] at H
     have c17b0 : decide (t273 < 0) = true := decide_eq_true c17
     clear c17
     by_cases c18 : x3_2.length < 5864062014805
     rotate_left
     ·rw [if_neg c18] at H
      exact absurd H (by simp)
     rw [if_pos c18] at H
     have LMc18 := aM c18
     clear c18
     obtain ⟨y274, hy274⟩ : ∃ y_ : List (S57), y_ = (x3_2 ++ [(⟨t268, t269, t270⟩ : S57)]) := ⟨_, rfl⟩
     replace H : (spec_l09Connected.l1 k2 l0 y274 x4_1 (wrap64 (x5_2 + 1))) = some r := zy H hy274
     have Ny274 := aM hy274
     clear hy274
     have H' := aM H
     clear H
     try go_wp2
     have n0_ := aM (Kd.R_drew HO_3.out)
     have n1_ := aM (below_drew1 HB.out)
     clear HO_3
     clear HB
     have HO_3 := n0_
     have HB := n1_
     clear n0_ n1_
     obtain ⟨Ao20, co20, eo20⟩ := Kd.R_slice HO_3.out
     (first | subst eo20 | (injection eo20 with f1_ f2_ f3_; have f4_ := f1_.symm; have f5_ := f3_.symm; clear f1_ f2_ f3_; subst f4_; subst f5_))
     have p263 : 0 ≤ (x4_1 : Int) := of_decide_eq_true za
     have q263 : x4_1 < (x3_2.length : Int) := of_decide_eq_true za
     obtain ⟨ad263, e263, hx263_0, hx263_1, hx263_2⟩ := at_T57 (Kd.R_reads' HO_3.out).2.2 x4_1 p263 q263
     cases e263
     replace p263 := eq_true p263
     replace q263 := eq_true q263
     refine start_ (n := 11) (S := fun w' => w'.cell? (ad263.add ((x4_1).toNat * 3)) = some (.int .i64 ((rd_T57 x3_2 x4_1).f0)) ∧ w'.cell? ⟨(ad263.add ((x4_1).toNat * 3)).block, (ad263.add ((x4_1).toNat * 3)).off + 1, none⟩ = some (.int .i64 ((rd_T57 x3_2 x4_1).f1)) ∧ w'.cell? ⟨(ad263.add ((x4_1).toNat * 3)).block, (ad263.add ((x4_1).toNat * 3)).off + 2, none⟩ = some (.int .i64 ((rd_T57 x3_2 x4_1).f2))) (ds := []) #[false, false, false, false, false, false, false, false, false, false, false] (by kernel_rfl) rfl rfl ⟨hx263_0, hx263_1, hx263_2⟩ (fun hHeld => ?_); refine with_tabW spec_l09Connected.tab8 spec_l09Connected.bits8 (fun HT_ HW_ => ?_)
     generalize wr.drew = w19 at HO_3 HB hx263_0 hx263_1 hx263_2 hHeld ⊢
     refine pure_ (i := 0) (N := some 21) (v := ?_) (a' := ?_) #[true, false, false, false, false, false, false, false, false, false, false] rfl rfl zz (fun _ _ _ h => h) (Or.inl ⟨by rfl, ?_⟩) ?_ ?_
     rotate_left
     ·intro w'
      go_simp
      with_reducible rfl
     rotate_left
     ·simp only [Act.put, xA, xB, xC, i64_w, i32_w]
      rfl
     refine pure_ (i := 1) (N := some 22) (v := ?_) (a' := ?_) #[true, true, false, false, false, false, false, false, false, false, false] rfl rfl zz (fun _ _ _ h => h) (Or.inl ⟨by rfl, ?_⟩) ?_ ?_
     rotate_left
     ·intro w'
      go_simp
      with_reducible rfl
     rotate_left
     ·simp only [Act.put, xA, xB, xC, i64_w, i32_w]
      rfl
     refine pure_ (i := 2) (N := some 23) (v := ?_) (a' := ?_) #[true, true, true, false, false, false, false, false, false, false, false] rfl rfl zz (fun _ _ _ h => h) (Or.inl ⟨by rfl, ?_⟩) ?_ ?_
     rotate_left
     ·intro w'
      go_simp
      with_reducible rfl
     rotate_left
     ·simp only [Act.put, xA, xB, xC, i64_w, i32_w]
      rfl
     refine pure_ (i := 5) (N := some 26) (v := ?_) (a' := ?_) #[true, true, true, false, false, true, false, false, false, false, false] rfl rfl zz (fun _ _ _ h => h) (Or.inl ⟨by rfl, ?_⟩) ?_ ?_
     rotate_left
     ·intro w'
      go_simp
      with_reducible rfl
     rotate_left
     ·simp only [Act.put, xA, xB, xC, i64_w, i32_w]
      rfl
     refine take_ (i := 3) (N := some 24) (v := ?_) (a' := ?_) #[true, true, true, true, false, true, false, false, false, false, false] rfl rfl (take_ofW HT_.out HW_.out (by kernel_rfl)) (fun _ _ _ h => h) (Or.inl ⟨by rfl, ?_⟩) hHeld ?_ ?_
     rotate_left
     ·rintro w' ⟨s0, s1, s2⟩
      go_simp
      with_reducible rfl
     rotate_left
     ·simp only [Act.put, xA, xB, xC, i64_w, i32_w]
      rfl
     refine join9_ (σ := (Value × Nat) × Addr) (fun s_ w' => w'.cell? (ad263.add ((x4_1).toNat * 3)) = some (.int .i64 ((rd_T57 x3_2 x4_1).f0)) ∧ w'.cell? ⟨(ad263.add ((x4_1).toNat * 3)).block, (ad263.add ((x4_1).toNat * 3)).off + 1, none⟩ = some (.int .i64 ((rd_T57 x3_2 x4_1).f1)) ∧ w'.cell? ⟨(ad263.add ((x4_1).toNat * 3)).block, (ad263.add ((x4_1).toNat * 3)).off + 2, none⟩ = some (.int .i64 ((rd_T57 x3_2 x4_1).f2)) ∧ w'.cell? (s_.2.add ((x5_2).toNat * 3)) = some (.int .i64 ((rd_T57 t264 x5_2).f0)) ∧ w'.cell? ⟨(s_.2.add ((x5_2).toNat * 3)).block, (s_.2.add ((x5_2).toNat * 3)).off + 1, none⟩ = some (.int .i64 ((rd_T57 t264 x5_2).f1)) ∧ w'.cell? ⟨(s_.2.add ((x5_2).toNat * 3)).block, (s_.2.add ((x5_2).toNat * 3)).off + 2, none⟩ = some (.int .i64 ((rd_T57 t264 x5_2).f2))) 1 #[true, true, true, true, true, true, true, true, true, true, false] (fun s_ => [(25, s_.1.1), (29, .agg #[.int .i64 t268, .int .i64 t269, .int .i64 t270]), (6, .pointer (some ⟨s_.1.2, 0, none⟩)), (27, .pointer (some (s_.2.add ((x5_2).toNat * 3)))), (28, .agg #[.int .i64 ((rd_T57 t264 x5_2).f0), .int .i64 ((rd_T57 t264 x5_2).f1), .int .i64 ((rd_T57 t264 x5_2).f2)])]) (fun s_ w' => (w'.cell? (ad263.add ((x4_1).toNat * 3)) = some (.int .i64 ((rd_T57 x3_2 x4_1).f0)) ∧ w'.cell? ⟨(ad263.add ((x4_1).toNat * 3)).block, (ad263.add ((x4_1).toNat * 3)).off + 1, none⟩ = some (.int .i64 ((rd_T57 x3_2 x4_1).f1)) ∧ w'.cell? ⟨(ad263.add ((x4_1).toNat * 3)).block, (ad263.add ((x4_1).toNat * 3)).off + 2, none⟩ = some (.int .i64 ((rd_T57 x3_2 x4_1).f2)) ∧ w'.cell? (s_.2.add ((x5_2).toNat * 3)) = some (.int .i64 ((rd_T57 t264 x5_2).f0)) ∧ w'.cell? ⟨(s_.2.add ((x5_2).toNat * 3)).block, (s_.2.add ((x5_2).toNat * 3)).off + 1, none⟩ = some (.int .i64 ((rd_T57 t264 x5_2).f1)) ∧ w'.cell? ⟨(s_.2.add ((x5_2).toNat * 3)).block, (s_.2.add ((x5_2).toNat * 3)).off + 2, none⟩ = some (.int .i64 ((rd_T57 t264 x5_2).f2))) ∧ (Kd.R k57 57 w' w.heap.size (fun k_ => some k_ ≠ (.slice (some ad263) x3_2.length co20 : Value).ownBlock ∧ k_ ≠ s_.1.2) s_.1.1 t264) ∧ (Kd.R k57 57 w' w.heap.size (fun k_ => some k_ ≠ (s_.1.1 : Value).ownBlock ∧ k_ ≠ s_.1.2) (.slice (some ad263) x3_2.length co20) x3_2) ∧ (w'.heap[s_.1.2]? = some (.cells #[.int .i64 0, .int .i64 0, .int .i64 0] 57 (0, 0))) ∧ (w.heap.size ≤ s_.1.2) ∧ (w.heap.size ≤ s_.1.2) ∧ (Below w.heap.size w w') ∧ (∃ c9_, s_.1.1 = Value.slice (some s_.2) t264.length c9_)) ?_ ?_
     rotate_left
     ·intro hCont
      refine two_ (i := 4) (j := 9) (Ni := some 25) (Nj := some 6) #[true, true, true, true, true, true, false, false, false, false, false] #[true, true, true, true, false, true, false, false, false, true, false] rfl rfl rfl rfl (two_of HT_.out (by kernel_rfl)) (by decide) (by decide) (fun K hK => ?_) (fun K hK => ?_)
      ·skip
       refine goes_ Try.func79 (by kernel_rfl) rfl #[] (by rfl) rfl rfl zm ?_
       with_reducible refine (spec_l09Steps.calls  t264 _ A10.out).mono ?_
       rintro e w21 ⟨v265, rfl, ho0, hb⟩
       have HS0_ := (hb.cell (World.block_lt_of_cell? _ _ (hHeld.1))).trans (hHeld.1)
       have HS1_ := (hb.cell (World.block_lt_of_cell? _ _ (hHeld.2.1))).trans (hHeld.2.1)
       have HS2_ := (hb.cell (World.block_lt_of_cell? _ _ (hHeld.2.2))).trans (hHeld.2.2)
       refine ⟨_, rfl, ?_⟩
       have n0_ := aM (Kd.R_elder' (mR_ HO_3.out) (Kd.R_base ho0) hb)
       have n1_ := aM (Kd.R_lower (Kd.R_new' ho0 (Kd.R_lt (mR_ HO_3.out))) (below_size zb))
       have n2_ := aM (below_step zb hb)
       clear HO_3
       clear HB
       have HO_3 := n0_
       have HO266 := n1_
       have HB := n2_
       clear n0_ n1_ n2_
       (try clear hb)
       (try clear hb2)
       (try clear hk)
       (try clear hi)
       (try clear ho0)
       obtain ⟨Ao22, co22, eo22⟩ := Kd.R_slice HO266.out
       (first | subst eo22 | (injection eo22 with f1_ f2_ f3_; have f4_ := f1_.symm; have f5_ := f3_.symm; clear f1_ f2_ f3_; subst f4_; subst f5_))
       have p267 : 0 ≤ (x5_2 : Int) := of_decide_eq_true za
       have q267 : x5_2 < (t264.length : Int) := of_decide_eq_true za
       obtain ⟨ad267, e267, hx267_0, hx267_1, hx267_2⟩ := at_T57 (Kd.R_reads' HO266.out).2.2 x5_2 p267 q267
       cases e267
       replace p267 := eq_true p267
       replace q267 := eq_true q267
       refine hK.out _ _ ⟨HS0_, HS1_, HS2_⟩ (fun hHeld => ?_)
       clear hK K
       refine more_ (S' := fun w' => w'.cell? (ad263.add ((x4_1).toNat * 3)) = some (.int .i64 ((rd_T57 x3_2 x4_1).f0)) ∧ w'.cell? ⟨(ad263.add ((x4_1).toNat * 3)).block, (ad263.add ((x4_1).toNat * 3)).off + 1, none⟩ = some (.int .i64 ((rd_T57 x3_2 x4_1).f1)) ∧ w'.cell? ⟨(ad263.add ((x4_1).toNat * 3)).block, (ad263.add ((x4_1).toNat * 3)).off + 2, none⟩ = some (.int .i64 ((rd_T57 x3_2 x4_1).f2)) ∧ w'.cell? (ad267.add ((x5_2).toNat * 3)) = some (.int .i64 ((rd_T57 t264 x5_2).f0)) ∧ w'.cell? ⟨(ad267.add ((x5_2).toNat * 3)).block, (ad267.add ((x5_2).toNat * 3)).off + 1, none⟩ = some (.int .i64 ((rd_T57 t264 x5_2).f1)) ∧ w'.cell? ⟨(ad267.add ((x5_2).toNat * 3)).block, (ad267.add ((x5_2).toNat * 3)).off + 2, none⟩ = some (.int .i64 ((rd_T57 t264 x5_2).f2))) (fun _ h_ => ⟨h_.1, h_.2.1, h_.2.2.1⟩) ⟨hHeld.1, hHeld.2.1, hHeld.2.2, hx267_0, hx267_1, hx267_2⟩ (fun hHeld => ?_)
       refine norm_ (a' := ?_) ?_ ?_
       rotate_left
       ·show Act.put _ (some 25) _ = _
        simp only [Act.put, xA, xB, xC, i64_w, i32_w]
        rfl
       refine pure_ (i := 6) (N := some 27) (v := ?_) (a' := ?_) #[true, true, true, true, true, true, true, false, false, false, false] rfl rfl zz (fun _ _ _ h => h) (Or.inl ⟨by rfl, ?_⟩) ?_ ?_
       rotate_left
       ·intro w'
        go_simp
        with_reducible rfl
       rotate_left
       ·simp only [Act.put, xA, xB, xC, i64_w, i32_w]
        rfl
       refine take_ (i := 7) (N := some 28) (v := ?_) (a' := ?_) #[true, true, true, true, true, true, true, true, false, false, false] rfl rfl (take_ofW HT_.out HW_.out (by kernel_rfl)) (fun _ _ _ h => h) (Or.inl ⟨by rfl, ?_⟩) hHeld ?_ ?_
       rotate_left
       ·rintro w' ⟨s0, s1, s2, s3, s4, s5⟩
        go_simp
        with_reducible rfl
       rotate_left
       ·simp only [Act.put, xA, xB, xC, i64_w, i32_w]
        rfl
       refine two_ (i := 8) (j := 9) (Ni := some 29) (Nj := some 6) #[true, true, true, true, true, true, true, true, true, false, false] #[true, true, true, true, true, true, true, true, false, true, false] rfl rfl rfl rfl (two_of HT_.out (by kernel_rfl)) (by decide) (by decide) (fun K hK => ?_) (fun K hK => ?_)
       ·skip
        refine goes_ Try.func78 (by kernel_rfl) rfl #[.agg #[.int .i64 ((rd_T57 x3_2 x4_1).f0), .int .i64 ((rd_T57 x3_2 x4_1).f1), .int .i64 ((rd_T57 x3_2 x4_1).f2)], .agg #[.int .i64 ((rd_T57 t264 x5_2).f0), .int .i64 ((rd_T57 t264 x5_2).f1), .int .i64 ((rd_T57 t264 x5_2).f2)]] (by rfl) rfl rfl zm ?_
        with_reducible refine (spec_l09Add.calls ((rd_T57 x3_2 x4_1).f0) ((rd_T57 x3_2 x4_1).f1) ((rd_T57 x3_2 x4_1).f2) ((rd_T57 t264 x5_2).f0) ((rd_T57 t264 x5_2).f1) ((rd_T57 t264 x5_2).f2) t268 t269 t270 _ A13.out).mono ?_
        rintro e w23 ⟨rfl, hb⟩
        have HS0_ := (hb.cell (World.block_lt_of_cell? _ _ (hHeld.1))).trans (hHeld.1)
        have HS1_ := (hb.cell (World.block_lt_of_cell? _ _ (hHeld.2.1))).trans (hHeld.2.1)
        have HS2_ := (hb.cell (World.block_lt_of_cell? _ _ (hHeld.2.2.1))).trans (hHeld.2.2.1)
        have HS3_ := (hb.cell (World.block_lt_of_cell? _ _ (hHeld.2.2.2.1))).trans (hHeld.2.2.2.1)
        have HS4_ := (hb.cell (World.block_lt_of_cell? _ _ (hHeld.2.2.2.2.1))).trans (hHeld.2.2.2.2.1)
        have HS5_ := (hb.cell (World.block_lt_of_cell? _ _ (hHeld.2.2.2.2.2))).trans (hHeld.2.2.2.2.2)
        refine ⟨_, rfl, ?_⟩
        have n0_ := aM (Kd.R_below (mR_ HO_3.out) hb)
        have n1_ := aM (Kd.R_below (mR_ HO266.out) hb)
        have n2_ := aM (below_step zb hb)
        clear HO_3
        clear HO266
        clear HB
        have HO_3 := n0_
        have HO266 := n1_
        have HB := n2_
        clear n0_ n1_ n2_
        (try clear hb)
        (try clear hb2)
        (try clear hk)
        (try clear hi)
        refine hK.out _ _ ⟨HS0_, HS1_, HS2_, HS3_, HS4_, HS5_⟩ (fun hHeld => ?_)
        clear hK K
        refine norm_ (a' := ?_) ?_ ?_
        rotate_left
        ·show Act.put _ (some 29) _ = _
         simp only [Act.put, xA, xB, xC, i64_w, i32_w]
         rfl
        refine one_ (i := 9) (N := some 6) #[true, true, true, true, true, true, true, true, true, true, false] rfl rfl (one_of HT_.out (by kernel_rfl)) (by decide) (fun K hK => ?_)
        refine box_step ?hg (N := 6) ?hd (cs := #[.int .i64 0, .int .i64 0, .int .i64 0]) (t := 57) ?hr ?_; (case hd => rfl); (case hg => rfl); (case hr => first | (go_simp; done) | (go_simp; rfl))
        intro gb271 hg w24 hbox hb
        have HS0_ := (hb.cell (World.block_lt_of_cell? _ _ (hHeld.1))).trans (hHeld.1)
        have HS1_ := (hb.cell (World.block_lt_of_cell? _ _ (hHeld.2.1))).trans (hHeld.2.1)
        have HS2_ := (hb.cell (World.block_lt_of_cell? _ _ (hHeld.2.2.1))).trans (hHeld.2.2.1)
        have HS3_ := (hb.cell (World.block_lt_of_cell? _ _ (hHeld.2.2.2.1))).trans (hHeld.2.2.2.1)
        have HS4_ := (hb.cell (World.block_lt_of_cell? _ _ (hHeld.2.2.2.2.1))).trans (hHeld.2.2.2.2.1)
        have HS5_ := (hb.cell (World.block_lt_of_cell? _ _ (hHeld.2.2.2.2.2))).trans (hHeld.2.2.2.2.2)
        have n0_ := aM (Kd.R_below (Kd.R_elderB (mR_ HO_3.out) gb271 (Nat.le_of_eq hg.symm)) hb)
        have n1_ := aM (Kd.R_below (Kd.R_elderB (mR_ HO266.out) gb271 (Nat.le_of_eq hg.symm)) hb)
        have n2_ := aM (below_step zb hb)
        have n3_ := aM (hbox)
        have n4_ := aM ((ze : w.heap.size ≤ gb271))
        have n5_ := aM ((ze : w.heap.size ≤ gb271))
        clear HO_3
        clear HO266
        clear HB
        have HO_3 := n0_
        have HO266 := n1_
        have HB := n2_
        have BK271 := n3_
        have GW271 := n4_
        have GE271 := n5_
        clear n0_ n1_ n2_ n3_ n4_ n5_
        clear hb hbox hg
        refine hK.out _ _ ⟨HS0_, HS1_, HS2_, HS3_, HS4_, HS5_⟩ (fun hHeld => ?_)
        clear hK K
        refine norm_ (a' := ?_) ?_ ?_
        rotate_left
        ·show Act.put _ (some 6) _ = _
         simp only [Act.put, xA, xB, xC, i64_w, i32_w]
         rfl
        exact norm_ (by simp only [putAll, Act.put, xA, xB, xC]) (hCont ((.slice (some ad267) t264.length co22, gb271), ad267) _ ⟨hHeld, (by (with_reducible repeat (first | apply Kd.R_alloc | apply Kd.R_drewN | apply Kd.R_drew)); exact Kd.R_mono HO266.out (fun _ hk => ⟨hk.1.2, hk.2⟩)), (by (with_reducible repeat (first | apply Kd.R_alloc | apply Kd.R_drewN | apply Kd.R_drew)); exact Kd.R_mono HO_3.out (fun _ hk => ⟨hk.1.2, hk.2⟩)), (mB_ BK271.out), GW271.out, GE271.out, (zs GE271.out), ⟨_, rfl⟩⟩)
       ·skip
        refine box_step ?hg (N := 6) ?hd (cs := #[.int .i64 0, .int .i64 0, .int .i64 0]) (t := 57) ?hr ?_; (case hd => rfl); (case hg => rfl); (case hr => first | (go_simp; done) | (go_simp; rfl))
        intro gb271 hg w23 hbox hb
        have HS0_ := (hb.cell (World.block_lt_of_cell? _ _ (hHeld.1))).trans (hHeld.1)
        have HS1_ := (hb.cell (World.block_lt_of_cell? _ _ (hHeld.2.1))).trans (hHeld.2.1)
        have HS2_ := (hb.cell (World.block_lt_of_cell? _ _ (hHeld.2.2.1))).trans (hHeld.2.2.1)
        have HS3_ := (hb.cell (World.block_lt_of_cell? _ _ (hHeld.2.2.2.1))).trans (hHeld.2.2.2.1)
        have HS4_ := (hb.cell (World.block_lt_of_cell? _ _ (hHeld.2.2.2.2.1))).trans (hHeld.2.2.2.2.1)
        have HS5_ := (hb.cell (World.block_lt_of_cell? _ _ (hHeld.2.2.2.2.2))).trans (hHeld.2.2.2.2.2)
        have n0_ := aM (Kd.R_below (Kd.R_elderB (mR_ HO_3.out) gb271 (Nat.le_of_eq hg.symm)) hb)
        have n1_ := aM (Kd.R_below (Kd.R_elderB (mR_ HO266.out) gb271 (Nat.le_of_eq hg.symm)) hb)
        have n2_ := aM (below_step zb hb)
        have n3_ := aM (hbox)
        have n4_ := aM ((ze : w.heap.size ≤ gb271))
        have n5_ := aM ((ze : w.heap.size ≤ gb271))
        clear HO_3
        clear HO266
        clear HB
        have HO_3 := n0_
        have HO266 := n1_
        have HB := n2_
        have BK271 := n3_
        have GW271 := n4_
        have GE271 := n5_
        clear n0_ n1_ n2_ n3_ n4_ n5_
        clear hb hbox hg
        refine hK.out _ _ ⟨HS0_, HS1_, HS2_, HS3_, HS4_, HS5_⟩ (fun hHeld => ?_)
        clear hK K
        refine norm_ (a' := ?_) ?_ ?_
        rotate_left
        ·show Act.put _ (some 6) _ = _
         simp only [Act.put, xA, xB, xC, i64_w, i32_w]
         rfl
        refine one_ (i := 8) (N := some 29) #[true, true, true, true, true, true, true, true, true, true, false] rfl rfl (one_of HT_.out (by kernel_rfl)) (by decide) (fun K hK => ?_)
        refine goes_ Try.func78 (by kernel_rfl) rfl #[.agg #[.int .i64 ((rd_T57 x3_2 x4_1).f0), .int .i64 ((rd_T57 x3_2 x4_1).f1), .int .i64 ((rd_T57 x3_2 x4_1).f2)], .agg #[.int .i64 ((rd_T57 t264 x5_2).f0), .int .i64 ((rd_T57 t264 x5_2).f1), .int .i64 ((rd_T57 t264 x5_2).f2)]] (by rfl) rfl rfl zm ?_
        with_reducible refine (spec_l09Add.calls ((rd_T57 x3_2 x4_1).f0) ((rd_T57 x3_2 x4_1).f1) ((rd_T57 x3_2 x4_1).f2) ((rd_T57 t264 x5_2).f0) ((rd_T57 t264 x5_2).f1) ((rd_T57 t264 x5_2).f2) t268 t269 t270 _ A13.out).mono ?_
        rintro e w24 ⟨rfl, hb⟩
        have HS0_ := (hb.cell (World.block_lt_of_cell? _ _ (hHeld.1))).trans (hHeld.1)
        have HS1_ := (hb.cell (World.block_lt_of_cell? _ _ (hHeld.2.1))).trans (hHeld.2.1)
        have HS2_ := (hb.cell (World.block_lt_of_cell? _ _ (hHeld.2.2.1))).trans (hHeld.2.2.1)
        have HS3_ := (hb.cell (World.block_lt_of_cell? _ _ (hHeld.2.2.2.1))).trans (hHeld.2.2.2.1)
        have HS4_ := (hb.cell (World.block_lt_of_cell? _ _ (hHeld.2.2.2.2.1))).trans (hHeld.2.2.2.2.1)
        have HS5_ := (hb.cell (World.block_lt_of_cell? _ _ (hHeld.2.2.2.2.2))).trans (hHeld.2.2.2.2.2)
        refine ⟨_, rfl, ?_⟩
        have n0_ := aM (Kd.R_below (mR_ HO_3.out) hb)
        have n1_ := aM (Kd.R_below (mR_ HO266.out) hb)
        have n2_ := aM (blk_below (g := gb271) (o := .cells #[.int .i64 0, .int .i64 0, .int .i64 0] 57 (0, 0)) (mB_ BK271.out) hb)
        have n3_ := aM (below_step (zs GE271.out) hb)
        clear HO_3
        clear HO266
        clear BK271
        clear HB
        have HO_3 := n0_
        have HO266 := n1_
        have BK271 := n2_
        have HB := n3_
        clear n0_ n1_ n2_ n3_
        (try clear hb)
        (try clear hb2)
        (try clear hk)
        (try clear hi)
        refine hK.out _ _ ⟨HS0_, HS1_, HS2_, HS3_, HS4_, HS5_⟩ (fun hHeld => ?_)
        clear hK K
        refine norm_ (a' := ?_) ?_ ?_
        rotate_left
        ·show Act.put _ (some 29) _ = _
         simp only [Act.put, xA, xB, xC, i64_w, i32_w]
         rfl
        exact norm_ (by simp only [putAll, Act.put, xA, xB, xC]) (hCont ((.slice (some ad267) t264.length co22, gb271), ad267) _ ⟨hHeld, (by (with_reducible repeat (first | apply Kd.R_alloc | apply Kd.R_drewN | apply Kd.R_drew)); exact Kd.R_mono HO266.out (fun _ hk => ⟨hk.1.2, hk.2⟩)), (by (with_reducible repeat (first | apply Kd.R_alloc | apply Kd.R_drewN | apply Kd.R_drew)); exact Kd.R_mono HO_3.out (fun _ hk => ⟨hk.1.2, hk.2⟩)), (mB_ BK271.out), GW271.out, GE271.out, (zs GE271.out), ⟨_, rfl⟩⟩)
      ·skip
       refine box_step ?hg (N := 6) ?hd (cs := #[.int .i64 0, .int .i64 0, .int .i64 0]) (t := 57) ?hr ?_; (case hd => rfl); (case hg => rfl); (case hr => first | (go_simp; done) | (go_simp; rfl))
       intro gb271 hg w21 hbox hb
       have HS0_ := (hb.cell (World.block_lt_of_cell? _ _ (hHeld.1))).trans (hHeld.1)
       have HS1_ := (hb.cell (World.block_lt_of_cell? _ _ (hHeld.2.1))).trans (hHeld.2.1)
       have HS2_ := (hb.cell (World.block_lt_of_cell? _ _ (hHeld.2.2))).trans (hHeld.2.2)
       have n0_ := aM (Kd.R_below (Kd.R_elderB (mR_ HO_3.out) gb271 (Nat.le_of_eq hg.symm)) hb)
       have n1_ := aM (below_step zb hb)
       have n2_ := aM (hbox)
       have n3_ := aM ((ze : w.heap.size ≤ gb271))
       have n4_ := aM ((ze : w.heap.size ≤ gb271))
       clear HO_3
       clear HB
       have HO_3 := n0_
       have HB := n1_
       have BK271 := n2_
       have GW271 := n3_
       have GE271 := n4_
       clear n0_ n1_ n2_ n3_ n4_
       clear hb hbox hg
       refine hK.out _ _ ⟨HS0_, HS1_, HS2_⟩ (fun hHeld => ?_)
       clear hK K
       refine norm_ (a' := ?_) ?_ ?_
       rotate_left
       ·show Act.put _ (some 6) _ = _
        simp only [Act.put, xA, xB, xC, i64_w, i32_w]
        rfl
       refine one_ (i := 4) (N := some 25) #[true, true, true, true, true, true, false, false, false, true, false] rfl rfl (one_of HT_.out (by kernel_rfl)) (by decide) (fun K hK => ?_)
       refine goes_ Try.func79 (by kernel_rfl) rfl #[] (by rfl) rfl rfl zm ?_
       with_reducible refine (spec_l09Steps.calls  t264 _ A10.out).mono ?_
       rintro e w22 ⟨v265, rfl, ho0, hb⟩
       have HS0_ := (hb.cell (World.block_lt_of_cell? _ _ (hHeld.1))).trans (hHeld.1)
       have HS1_ := (hb.cell (World.block_lt_of_cell? _ _ (hHeld.2.1))).trans (hHeld.2.1)
       have HS2_ := (hb.cell (World.block_lt_of_cell? _ _ (hHeld.2.2))).trans (hHeld.2.2)
       refine ⟨_, rfl, ?_⟩
       have n0_ := aM (Kd.R_elder' (mR_ HO_3.out) (Kd.R_base ho0) hb)
       have n1_ := aM (Kd.R_lower (Kd.R_newB (Kd.R_new' ho0 (Kd.R_lt (mR_ HO_3.out))) (g := gb271) (o := .cells #[.int .i64 0, .int .i64 0, .int .i64 0] 57 (0, 0)) (mB_ BK271.out)) (below_size (zs GE271.out)))
       have n2_ := aM (blk_below (g := gb271) (o := .cells #[.int .i64 0, .int .i64 0, .int .i64 0] 57 (0, 0)) (mB_ BK271.out) hb)
       have n3_ := aM (below_step (zs GE271.out) hb)
       clear HO_3
       clear BK271
       clear HB
       have HO_3 := n0_
       have HO266 := n1_
       have BK271 := n2_
       have HB := n3_
       clear n0_ n1_ n2_ n3_
       (try clear hb)
       (try clear hb2)
       (try clear hk)
       (try clear hi)
       (try clear ho0)
       obtain ⟨Ao23, co23, eo23⟩ := Kd.R_slice HO266.out
       (first | subst eo23 | (injection eo23 with f1_ f2_ f3_; have f4_ := f1_.symm; have f5_ := f3_.symm; clear f1_ f2_ f3_; subst f4_; subst f5_))
       have p267 : 0 ≤ (x5_2 : Int) := of_decide_eq_true za
       have q267 : x5_2 < (t264.length : Int) := of_decide_eq_true za
       obtain ⟨ad267, e267, hx267_0, hx267_1, hx267_2⟩ := at_T57 (Kd.R_reads' HO266.out).2.2 x5_2 p267 q267
       cases e267
       replace p267 := eq_true p267
       replace q267 := eq_true q267
       refine hK.out _ _ ⟨HS0_, HS1_, HS2_⟩ (fun hHeld => ?_)
       clear hK K
       refine more_ (S' := fun w' => w'.cell? (ad263.add ((x4_1).toNat * 3)) = some (.int .i64 ((rd_T57 x3_2 x4_1).f0)) ∧ w'.cell? ⟨(ad263.add ((x4_1).toNat * 3)).block, (ad263.add ((x4_1).toNat * 3)).off + 1, none⟩ = some (.int .i64 ((rd_T57 x3_2 x4_1).f1)) ∧ w'.cell? ⟨(ad263.add ((x4_1).toNat * 3)).block, (ad263.add ((x4_1).toNat * 3)).off + 2, none⟩ = some (.int .i64 ((rd_T57 x3_2 x4_1).f2)) ∧ w'.cell? (ad267.add ((x5_2).toNat * 3)) = some (.int .i64 ((rd_T57 t264 x5_2).f0)) ∧ w'.cell? ⟨(ad267.add ((x5_2).toNat * 3)).block, (ad267.add ((x5_2).toNat * 3)).off + 1, none⟩ = some (.int .i64 ((rd_T57 t264 x5_2).f1)) ∧ w'.cell? ⟨(ad267.add ((x5_2).toNat * 3)).block, (ad267.add ((x5_2).toNat * 3)).off + 2, none⟩ = some (.int .i64 ((rd_T57 t264 x5_2).f2))) (fun _ h_ => ⟨h_.1, h_.2.1, h_.2.2.1⟩) ⟨hHeld.1, hHeld.2.1, hHeld.2.2, hx267_0, hx267_1, hx267_2⟩ (fun hHeld => ?_)
       refine norm_ (a' := ?_) ?_ ?_
       rotate_left
       ·show Act.put _ (some 25) _ = _
        simp only [Act.put, xA, xB, xC, i64_w, i32_w]
        rfl
       refine pure_ (i := 6) (N := some 27) (v := ?_) (a' := ?_) #[true, true, true, true, true, true, true, false, false, true, false] rfl rfl zz (fun _ _ _ h => h) (Or.inl ⟨by rfl, ?_⟩) ?_ ?_
       rotate_left
       ·intro w'
        go_simp
        with_reducible rfl
       rotate_left
       ·simp only [Act.put, xA, xB, xC, i64_w, i32_w]
        rfl
       refine take_ (i := 7) (N := some 28) (v := ?_) (a' := ?_) #[true, true, true, true, true, true, true, true, false, true, false] rfl rfl (take_ofW HT_.out HW_.out (by kernel_rfl)) (fun _ _ _ h => h) (Or.inl ⟨by rfl, ?_⟩) hHeld ?_ ?_
       rotate_left
       ·rintro w' ⟨s0, s1, s2, s3, s4, s5⟩
        go_simp
        with_reducible rfl
       rotate_left
       ·simp only [Act.put, xA, xB, xC, i64_w, i32_w]
        rfl
       refine one_ (i := 8) (N := some 29) #[true, true, true, true, true, true, true, true, true, true, false] rfl rfl (one_of HT_.out (by kernel_rfl)) (by decide) (fun K hK => ?_)
       refine goes_ Try.func78 (by kernel_rfl) rfl #[.agg #[.int .i64 ((rd_T57 x3_2 x4_1).f0), .int .i64 ((rd_T57 x3_2 x4_1).f1), .int .i64 ((rd_T57 x3_2 x4_1).f2)], .agg #[.int .i64 ((rd_T57 t264 x5_2).f0), .int .i64 ((rd_T57 t264 x5_2).f1), .int .i64 ((rd_T57 t264 x5_2).f2)]] (by rfl) rfl rfl zm ?_
       with_reducible refine (spec_l09Add.calls ((rd_T57 x3_2 x4_1).f0) ((rd_T57 x3_2 x4_1).f1) ((rd_T57 x3_2 x4_1).f2) ((rd_T57 t264 x5_2).f0) ((rd_T57 t264 x5_2).f1) ((rd_T57 t264 x5_2).f2) t268 t269 t270 _ A13.out).mono ?_
       rintro e w24 ⟨rfl, hb⟩
       have HS0_ := (hb.cell (World.block_lt_of_cell? _ _ (hHeld.1))).trans (hHeld.1)
       have HS1_ := (hb.cell (World.block_lt_of_cell? _ _ (hHeld.2.1))).trans (hHeld.2.1)
       have HS2_ := (hb.cell (World.block_lt_of_cell? _ _ (hHeld.2.2.1))).trans (hHeld.2.2.1)
       have HS3_ := (hb.cell (World.block_lt_of_cell? _ _ (hHeld.2.2.2.1))).trans (hHeld.2.2.2.1)
       have HS4_ := (hb.cell (World.block_lt_of_cell? _ _ (hHeld.2.2.2.2.1))).trans (hHeld.2.2.2.2.1)
       have HS5_ := (hb.cell (World.block_lt_of_cell? _ _ (hHeld.2.2.2.2.2))).trans (hHeld.2.2.2.2.2)
       refine ⟨_, rfl, ?_⟩
       have n0_ := aM (Kd.R_below (mR_ HO_3.out) hb)
       have n1_ := aM (Kd.R_below (mR_ HO266.out) hb)
       have n2_ := aM (blk_below (g := gb271) (o := .cells #[.int .i64 0, .int .i64 0, .int .i64 0] 57 (0, 0)) (mB_ BK271.out) hb)
       have n3_ := aM (below_step (zs GE271.out) hb)
       clear HO_3
       clear HO266
       clear BK271
       clear HB
       have HO_3 := n0_
       have HO266 := n1_
       have BK271 := n2_
       have HB := n3_
       clear n0_ n1_ n2_ n3_
       (try clear hb)
       (try clear hb2)
       (try clear hk)
       (try clear hi)
       refine hK.out _ _ ⟨HS0_, HS1_, HS2_, HS3_, HS4_, HS5_⟩ (fun hHeld => ?_)
       clear hK K
       refine norm_ (a' := ?_) ?_ ?_
       rotate_left
       ·show Act.put _ (some 29) _ = _
        simp only [Act.put, xA, xB, xC, i64_w, i32_w]
        rfl
       exact norm_ (by simp only [putAll, Act.put, xA, xB, xC]) (hCont ((.slice (some ad267) t264.length co23, gb271), ad267) _ ⟨hHeld, (by (with_reducible repeat (first | apply Kd.R_alloc | apply Kd.R_drewN | apply Kd.R_drew)); exact Kd.R_mono HO266.out (fun _ hk => ⟨hk.1.2, hk.2⟩)), (by (with_reducible repeat (first | apply Kd.R_alloc | apply Kd.R_drewN | apply Kd.R_drew)); exact Kd.R_mono HO_3.out (fun _ hk => ⟨hk.2, hk.1.2⟩)), (mB_ BK271.out), GW271.out, GE271.out, (zs GE271.out), ⟨_, rfl⟩⟩)
     rintro ⟨⟨v265, gb271⟩, ad267⟩ w25 ⟨hS_, h0_, h1_, h2_, h3_, h4_, h5_, ⟨c9_, h9_⟩⟩
     replace h9_ : v265 = Value.slice (some ad267) t264.length c9_ := h9_
     subst h9_
     refine more_ (S' := fun w' => w'.cell? (ad263.add ((x4_1).toNat * 3)) = some (.int .i64 ((rd_T57 x3_2 x4_1).f0)) ∧ w'.cell? ⟨(ad263.add ((x4_1).toNat * 3)).block, (ad263.add ((x4_1).toNat * 3)).off + 1, none⟩ = some (.int .i64 ((rd_T57 x3_2 x4_1).f1)) ∧ w'.cell? ⟨(ad263.add ((x4_1).toNat * 3)).block, (ad263.add ((x4_1).toNat * 3)).off + 2, none⟩ = some (.int .i64 ((rd_T57 x3_2 x4_1).f2)) ∧ w'.cell? (ad267.add ((x5_2).toNat * 3)) = some (.int .i64 ((rd_T57 t264 x5_2).f0)) ∧ w'.cell? ⟨(ad267.add ((x5_2).toNat * 3)).block, (ad267.add ((x5_2).toNat * 3)).off + 1, none⟩ = some (.int .i64 ((rd_T57 t264 x5_2).f1)) ∧ w'.cell? ⟨(ad267.add ((x5_2).toNat * 3)).block, (ad267.add ((x5_2).toNat * 3)).off + 2, none⟩ = some (.int .i64 ((rd_T57 t264 x5_2).f2))) (fun _ h_ => h_) hS_ (fun hS_ => ?_)
     have n0_ : Aside0 (Kd.R k57 57 w25 w.heap.size (fun k_ => some k_ ≠ (.slice (some ad263) x3_2.length co20 : Value).ownBlock ∧ k_ ≠ gb271) (.slice (some ad267) t264.length c9_) t264) := ⟨h0_⟩
     have n1_ : Aside0 (Kd.R k57 57 w25 w.heap.size (fun k_ => some k_ ≠ ((.slice (some ad267) t264.length c9_) : Value).ownBlock ∧ k_ ≠ gb271) (.slice (some ad263) x3_2.length co20) x3_2) := ⟨h1_⟩
     have n2_ : Aside0 (w25.heap[gb271]? = some (.cells #[.int .i64 0, .int .i64 0, .int .i64 0] 57 (0, 0))) := ⟨h2_⟩
     have n3_ : Aside0 (w.heap.size ≤ gb271) := ⟨h3_⟩
     have n4_ : Aside0 (w.heap.size ≤ gb271) := ⟨h4_⟩
     have n5_ : Aside0 (Below w.heap.size w w25) := ⟨h5_⟩
     clear HO_3
     clear HB
     clear h0_ h1_ h2_ h3_ h4_ h5_
     have HO266 := n0_
     have HO_3 := n1_
     have BK271 := n2_
     have GW271 := n3_
     have GE271 := n4_
     have HB := n5_
     clear n0_ n1_ n2_ n3_ n4_ n5_
     have hHeld : w25.cell? (ad263.add ((x4_1).toNat * 3)) = some (.int .i64 ((rd_T57 x3_2 x4_1).f0)) ∧ w25.cell? ⟨(ad263.add ((x4_1).toNat * 3)).block, (ad263.add ((x4_1).toNat * 3)).off + 1, none⟩ = some (.int .i64 ((rd_T57 x3_2 x4_1).f1)) ∧ w25.cell? ⟨(ad263.add ((x4_1).toNat * 3)).block, (ad263.add ((x4_1).toNat * 3)).off + 2, none⟩ = some (.int .i64 ((rd_T57 x3_2 x4_1).f2)) ∧ w25.cell? (ad267.add ((x5_2).toNat * 3)) = some (.int .i64 ((rd_T57 t264 x5_2).f0)) ∧ w25.cell? ⟨(ad267.add ((x5_2).toNat * 3)).block, (ad267.add ((x5_2).toNat * 3)).off + 1, none⟩ = some (.int .i64 ((rd_T57 t264 x5_2).f1)) ∧ w25.cell? ⟨(ad267.add ((x5_2).toNat * 3)).block, (ad267.add ((x5_2).toNat * 3)).off + 2, none⟩ = some (.int .i64 ((rd_T57 t264 x5_2).f2)) := hS_
     refine norm_ (a' := ?_) ?_ ?_
     rotate_left
     ·simp only [putAll, Act.put, xA, xB, xC]
      rfl
     refine one_ (i := 10) (N := none) #[true, true, true, true, true, true, true, true, true, true, true] rfl rfl (one_of HT_.out (by kernel_rfl)) (by decide) (fun K hK => ?_)
     have hs26 : w25.cell? ⟨gb271, 0, none⟩ = some (.int .i64 0) := (blk_cell BK271.out 0).trans rfl
     have hfs26 := blk_frozen BK271.out 0
     have hs27 : w25.cell? ⟨gb271, 1, none⟩ = some (.int .i64 0) := (blk_cell BK271.out 1).trans rfl
     have hfs27 := blk_frozen BK271.out 1
     have hs28 : w25.cell? ⟨gb271, 2, none⟩ = some (.int .i64 0) := (blk_cell BK271.out 2).trans rfl
     have hfs28 := blk_frozen BK271.out 2
     refine skip_ (w1 := ?_) (by rfl) rfl ?_ ?_
     rotate_left
     ·go_simp
      rfl
     refine hK.out _ _ ⟨((cell_far (p := ⟨gb271, _, none⟩) (by first | exact Kd.own_blk (Kd.R_away HO_3.out (fun _ hk => hk.2)) | (rw [add_block]; exact Kd.own_blk (Kd.R_away HO_3.out (fun _ hk => hk.2))) | (show (Addr.add _ _).block ≠ _; rw [add_block]; exact Kd.own_blk (Kd.R_away HO_3.out (fun _ hk => hk.2))) | (dsimp only; exact Kd.own_blk (Kd.R_away HO_3.out (fun _ hk => hk.2)))) _).trans (((cell_far (p := ⟨gb271, _, none⟩) (by first | exact Kd.own_blk (Kd.R_away HO_3.out (fun _ hk => hk.2)) | (rw [add_block]; exact Kd.own_blk (Kd.R_away HO_3.out (fun _ hk => hk.2))) | (show (Addr.add _ _).block ≠ _; rw [add_block]; exact Kd.own_blk (Kd.R_away HO_3.out (fun _ hk => hk.2))) | (dsimp only; exact Kd.own_blk (Kd.R_away HO_3.out (fun _ hk => hk.2)))) _).trans (((cell_far (p := ⟨gb271, _, none⟩) (by first | exact Kd.own_blk (Kd.R_away HO_3.out (fun _ hk => hk.2)) | (rw [add_block]; exact Kd.own_blk (Kd.R_away HO_3.out (fun _ hk => hk.2))) | (show (Addr.add _ _).block ≠ _; rw [add_block]; exact Kd.own_blk (Kd.R_away HO_3.out (fun _ hk => hk.2))) | (dsimp only; exact Kd.own_blk (Kd.R_away HO_3.out (fun _ hk => hk.2)))) _).trans (hHeld.1)))))), ((cell_far (p := ⟨gb271, _, none⟩) (by first | exact Kd.own_blk (Kd.R_away HO_3.out (fun _ hk => hk.2)) | (rw [add_block]; exact Kd.own_blk (Kd.R_away HO_3.out (fun _ hk => hk.2))) | (show (Addr.add _ _).block ≠ _; rw [add_block]; exact Kd.own_blk (Kd.R_away HO_3.out (fun _ hk => hk.2))) | (dsimp only; exact Kd.own_blk (Kd.R_away HO_3.out (fun _ hk => hk.2)))) _).trans (((cell_far (p := ⟨gb271, _, none⟩) (by first | exact Kd.own_blk (Kd.R_away HO_3.out (fun _ hk => hk.2)) | (rw [add_block]; exact Kd.own_blk (Kd.R_away HO_3.out (fun _ hk => hk.2))) | (show (Addr.add _ _).block ≠ _; rw [add_block]; exact Kd.own_blk (Kd.R_away HO_3.out (fun _ hk => hk.2))) | (dsimp only; exact Kd.own_blk (Kd.R_away HO_3.out (fun _ hk => hk.2)))) _).trans (((cell_far (p := ⟨gb271, _, none⟩) (by first | exact Kd.own_blk (Kd.R_away HO_3.out (fun _ hk => hk.2)) | (rw [add_block]; exact Kd.own_blk (Kd.R_away HO_3.out (fun _ hk => hk.2))) | (show (Addr.add _ _).block ≠ _; rw [add_block]; exact Kd.own_blk (Kd.R_away HO_3.out (fun _ hk => hk.2))) | (dsimp only; exact Kd.own_blk (Kd.R_away HO_3.out (fun _ hk => hk.2)))) _).trans (hHeld.2.1)))))), ((cell_far (p := ⟨gb271, _, none⟩) (by first | exact Kd.own_blk (Kd.R_away HO_3.out (fun _ hk => hk.2)) | (rw [add_block]; exact Kd.own_blk (Kd.R_away HO_3.out (fun _ hk => hk.2))) | (show (Addr.add _ _).block ≠ _; rw [add_block]; exact Kd.own_blk (Kd.R_away HO_3.out (fun _ hk => hk.2))) | (dsimp only; exact Kd.own_blk (Kd.R_away HO_3.out (fun _ hk => hk.2)))) _).trans (((cell_far (p := ⟨gb271, _, none⟩) (by first | exact Kd.own_blk (Kd.R_away HO_3.out (fun _ hk => hk.2)) | (rw [add_block]; exact Kd.own_blk (Kd.R_away HO_3.out (fun _ hk => hk.2))) | (show (Addr.add _ _).block ≠ _; rw [add_block]; exact Kd.own_blk (Kd.R_away HO_3.out (fun _ hk => hk.2))) | (dsimp only; exact Kd.own_blk (Kd.R_away HO_3.out (fun _ hk => hk.2)))) _).trans (((cell_far (p := ⟨gb271, _, none⟩) (by first | exact Kd.own_blk (Kd.R_away HO_3.out (fun _ hk => hk.2)) | (rw [add_block]; exact Kd.own_blk (Kd.R_away HO_3.out (fun _ hk => hk.2))) | (show (Addr.add _ _).block ≠ _; rw [add_block]; exact Kd.own_blk (Kd.R_away HO_3.out (fun _ hk => hk.2))) | (dsimp only; exact Kd.own_blk (Kd.R_away HO_3.out (fun _ hk => hk.2)))) _).trans (hHeld.2.2.1)))))), ((cell_far (p := ⟨gb271, _, none⟩) (by first | exact Kd.own_blk (Kd.R_away HO266.out (fun _ hk => hk.2)) | (rw [add_block]; exact Kd.own_blk (Kd.R_away HO266.out (fun _ hk => hk.2))) | (show (Addr.add _ _).block ≠ _; rw [add_block]; exact Kd.own_blk (Kd.R_away HO266.out (fun _ hk => hk.2))) | (dsimp only; exact Kd.own_blk (Kd.R_away HO266.out (fun _ hk => hk.2)))) _).trans (((cell_far (p := ⟨gb271, _, none⟩) (by first | exact Kd.own_blk (Kd.R_away HO266.out (fun _ hk => hk.2)) | (rw [add_block]; exact Kd.own_blk (Kd.R_away HO266.out (fun _ hk => hk.2))) | (show (Addr.add _ _).block ≠ _; rw [add_block]; exact Kd.own_blk (Kd.R_away HO266.out (fun _ hk => hk.2))) | (dsimp only; exact Kd.own_blk (Kd.R_away HO266.out (fun _ hk => hk.2)))) _).trans (((cell_far (p := ⟨gb271, _, none⟩) (by first | exact Kd.own_blk (Kd.R_away HO266.out (fun _ hk => hk.2)) | (rw [add_block]; exact Kd.own_blk (Kd.R_away HO266.out (fun _ hk => hk.2))) | (show (Addr.add _ _).block ≠ _; rw [add_block]; exact Kd.own_blk (Kd.R_away HO266.out (fun _ hk => hk.2))) | (dsimp only; exact Kd.own_blk (Kd.R_away HO266.out (fun _ hk => hk.2)))) _).trans (hHeld.2.2.2.1)))))), ((cell_far (p := ⟨gb271, _, none⟩) (by first | exact Kd.own_blk (Kd.R_away HO266.out (fun _ hk => hk.2)) | (rw [add_block]; exact Kd.own_blk (Kd.R_away HO266.out (fun _ hk => hk.2))) | (show (Addr.add _ _).block ≠ _; rw [add_block]; exact Kd.own_blk (Kd.R_away HO266.out (fun _ hk => hk.2))) | (dsimp only; exact Kd.own_blk (Kd.R_away HO266.out (fun _ hk => hk.2)))) _).trans (((cell_far (p := ⟨gb271, _, none⟩) (by first | exact Kd.own_blk (Kd.R_away HO266.out (fun _ hk => hk.2)) | (rw [add_block]; exact Kd.own_blk (Kd.R_away HO266.out (fun _ hk => hk.2))) | (show (Addr.add _ _).block ≠ _; rw [add_block]; exact Kd.own_blk (Kd.R_away HO266.out (fun _ hk => hk.2))) | (dsimp only; exact Kd.own_blk (Kd.R_away HO266.out (fun _ hk => hk.2)))) _).trans (((cell_far (p := ⟨gb271, _, none⟩) (by first | exact Kd.own_blk (Kd.R_away HO266.out (fun _ hk => hk.2)) | (rw [add_block]; exact Kd.own_blk (Kd.R_away HO266.out (fun _ hk => hk.2))) | (show (Addr.add _ _).block ≠ _; rw [add_block]; exact Kd.own_blk (Kd.R_away HO266.out (fun _ hk => hk.2))) | (dsimp only; exact Kd.own_blk (Kd.R_away HO266.out (fun _ hk => hk.2)))) _).trans (hHeld.2.2.2.2.1)))))), ((cell_far (p := ⟨gb271, _, none⟩) (by first | exact Kd.own_blk (Kd.R_away HO266.out (fun _ hk => hk.2)) | (rw [add_block]; exact Kd.own_blk (Kd.R_away HO266.out (fun _ hk => hk.2))) | (show (Addr.add _ _).block ≠ _; rw [add_block]; exact Kd.own_blk (Kd.R_away HO266.out (fun _ hk => hk.2))) | (dsimp only; exact Kd.own_blk (Kd.R_away HO266.out (fun _ hk => hk.2)))) _).trans (((cell_far (p := ⟨gb271, _, none⟩) (by first | exact Kd.own_blk (Kd.R_away HO266.out (fun _ hk => hk.2)) | (rw [add_block]; exact Kd.own_blk (Kd.R_away HO266.out (fun _ hk => hk.2))) | (show (Addr.add _ _).block ≠ _; rw [add_block]; exact Kd.own_blk (Kd.R_away HO266.out (fun _ hk => hk.2))) | (dsimp only; exact Kd.own_blk (Kd.R_away HO266.out (fun _ hk => hk.2)))) _).trans (((cell_far (p := ⟨gb271, _, none⟩) (by first | exact Kd.own_blk (Kd.R_away HO266.out (fun _ hk => hk.2)) | (rw [add_block]; exact Kd.own_blk (Kd.R_away HO266.out (fun _ hk => hk.2))) | (show (Addr.add _ _).block ≠ _; rw [add_block]; exact Kd.own_blk (Kd.R_away HO266.out (fun _ hk => hk.2))) | (dsimp only; exact Kd.own_blk (Kd.R_away HO266.out (fun _ hk => hk.2)))) _).trans (hHeld.2.2.2.2.2))))))⟩ (fun hHeld => ?_)
     clear hK K
     refine done_ (done_of HT_.out (by kernel_rfl)) ?_
     have hcz29_0 : w25.cell? ⟨gb271, 0, none⟩ = some (.int .i64 0) := (blk_cell BK271.out 0).trans rfl
     have hcz29_1 : w25.cell? ⟨gb271, 1, none⟩ = some (.int .i64 0) := (blk_cell BK271.out 1).trans rfl
     have hcz29_2 : w25.cell? ⟨gb271, 2, none⟩ = some (.int .i64 0) := (blk_cell BK271.out 2).trans rfl
     have hfz29_0 := blk_frozen BK271.out 0
     have hfz29_1 := blk_frozen BK271.out 1
     have hfz29_2 := blk_frozen BK271.out 2
     try go_wp2_with (first | ((with_reducible refine gate_callee (f := 77) rfl ?_); refine goesL_ (some 32) rfl rfl Try.func77 (by kernel_rfl) rfl #[.slice (some ad259) l0.length c0, .agg #[.int .i64 t268, .int .i64 t269, .int .i64 t270]] rfl zm ?_; (with_reducible refine (spec_l09Index.calls k2 _ _ l0 t268 t269 t270 t272 _ ?side1 ?side2 A14.out).mono ?_); (case side1 => exact Kd.C_below HR0.out (zs GE271.out)); (case side2 => exact HC0.out); rintro e w30 ⟨rfl, hb⟩; refine ⟨_, rfl, ?_⟩; have n0_ := aM (Kd.R_below (by (with_reducible repeat (first | apply Kd.R_alloc | apply Kd.R_drewN | apply Kd.R_drew)); exact (Kd.R_mono (Kd.R_far (p := ⟨gb271, 2, none⟩) (Kd.R_far (p := ⟨gb271, 1, none⟩) (Kd.R_far (p := ⟨gb271, 0, none⟩) (Kd.R_mono HO_3.out (fun k_ hk => (⟨hk, hk.2⟩ : _ ∧ k_ ≠ gb271))) (fun _ hk => hk.2) (.int .i64 t268)) (fun _ hk => hk.2) (.int .i64 t269)) (fun _ hk => hk.2) (.int .i64 t270)) (fun _ h_ => h_.1))) hb); have n1_ := aM (Kd.R_below (by (with_reducible repeat (first | apply Kd.R_alloc | apply Kd.R_drewN | apply Kd.R_drew)); exact (Kd.R_mono (Kd.R_far (p := ⟨gb271, 2, none⟩) (Kd.R_far (p := ⟨gb271, 1, none⟩) (Kd.R_far (p := ⟨gb271, 0, none⟩) (Kd.R_mono HO266.out (fun k_ hk => (⟨hk, hk.2⟩ : _ ∧ k_ ≠ gb271))) (fun _ hk => hk.2) (.int .i64 t268)) (fun _ hk => hk.2) (.int .i64 t269)) (fun _ hk => hk.2) (.int .i64 t270)) (fun _ h_ => h_.1))) hb); have n2_ := aM (blk_below (g := gb271) (o := .cells #[.int .i64 t268, .int .i64 t269, .int .i64 t270] 57 (0, 0)) (by (with_reducible repeat (first | refine blk_drewN ?_ _ | refine blk_drew ?_ | refine blk_alloc ?_ _)); refine blk_put (cs := #[.int .i64 t268, .int .i64 t269, .int .i64 0]) ?_ 2 _ rfl; (with_reducible repeat (first | refine blk_drewN ?_ _ | refine blk_drew ?_ | refine blk_alloc ?_ _)); refine blk_put (cs := #[.int .i64 t268, .int .i64 0, .int .i64 0]) ?_ 1 _ rfl; (with_reducible repeat (first | refine blk_drewN ?_ _ | refine blk_drew ?_ | refine blk_alloc ?_ _)); refine blk_put (cs := #[.int .i64 0, .int .i64 0, .int .i64 0]) ?_ 0 _ rfl; (with_reducible repeat (first | refine blk_drewN ?_ _ | refine blk_drew ?_ | refine blk_alloc ?_ _)); exact BK271.out) hb); have n3_ := aM (below_step (zs GE271.out) hb); clear HO_3; clear HO266; clear BK271; clear HB; have HO_3 := n0_; have HO266 := n1_; have BK271 := n2_; have HB := n3_; clear n0_ n1_ n2_ n3_; (try clear hb); (try clear hb2); (try clear hk); (try clear hi); have hcz31_0 : w30.cell? ⟨gb271, 0, none⟩ = some (.int .i64 t268) := (blk_cell BK271.out 0).trans rfl; have hcz31_1 : w30.cell? ⟨gb271, 1, none⟩ = some (.int .i64 t269) := (blk_cell BK271.out 1).trans rfl; have hcz31_2 : w30.cell? ⟨gb271, 2, none⟩ = some (.int .i64 t270) := (blk_cell BK271.out 2).trans rfl; have hfz31_0 := blk_frozen BK271.out 0; have hfz31_1 := blk_frozen BK271.out 1; have hfz31_2 := blk_frozen BK271.out 2) | (go_at_call 77; (with_reducible refine (spec_l09Index.calls k2 _ _ x3_2 t268 t269 t270 t273 _ ?side1 ?side2 A16.out).mono ?_); (case side1 => repeat (first | exact (Kd.R_reads' HO_3.out).2.2 | (with_reducible refine Kd.C_alloc ?_ _) | (with_reducible refine Kd.C_drewN ?_ _) | (with_reducible refine Kd.C_drew ?_))); (case side2 => exact (Kd.R_reads' HO_3.out).2.1); rintro e w32 ⟨rfl, hb⟩; have n0_ := aM (Kd.R_below (mR_ HO_3.out) hb); have n1_ := aM (Kd.R_below (mR_ HO266.out) hb); have n2_ := aM (blk_below (g := gb271) (o := .cells #[.int .i64 t268, .int .i64 t269, .int .i64 t270] 57 (0, 0)) (mB_ BK271.out) hb); have n3_ := aM (below_step (zs GE271.out) hb); clear HO_3; clear HO266; clear BK271; clear HB; have HO_3 := n0_; have HO266 := n1_; have BK271 := n2_; have HB := n3_; clear n0_ n1_ n2_ n3_; (try clear hb); (try clear hb2); (try clear hk); (try clear hi); have hcz33_0 : w32.cell? ⟨gb271, 0, none⟩ = some (.int .i64 t268) := (blk_cell BK271.out 0).trans rfl; have hcz33_1 : w32.cell? ⟨gb271, 1, none⟩ = some (.int .i64 t269) := (blk_cell BK271.out 1).trans rfl; have hcz33_2 : w32.cell? ⟨gb271, 2, none⟩ = some (.int .i64 t270) := (blk_cell BK271.out 2).trans rfl; have hfz33_0 := blk_frozen BK271.out 0; have hfz33_1 := blk_frozen BK271.out 1; have hfz33_2 := blk_frozen BK271.out 2) | ((with_reducible refine gate_builtin (b := .append) (xs := #[.tmp 40, .tmp 42]) rfl ?_); at_builtin; refine Kd.R_append k57 (w0 := w) w.heap.size rfl (.tmp 40) (.tmp 42) 34 57 (.agg #[(.int .i64 0), (.int .i64 0), (.int .i64 0)]) 24 rfl Try.underlying34 info57 rfl (by decide) (by omega) (.slice (some ad263) x3_2.length co20) x3_2 (⟨t268, t269, t270⟩ : S57) [.int .i64 t268, .int .i64 t269, .int .i64 t270] (fun k_ => some k_ ≠ ((.slice (some ad267) t264.length c9_) : Value).ownBlock ∧ k_ ≠ gb271) (fun _ => False) rfl rfl ?aP (fun _ hk => hk.elim) ?aF ?aO ?aB ?aS ?aL ?_; (case aP => exact k57_mkM _ _ _ (⟨t268, t269, t270⟩ : S57)); (case aB => exact (zs GE271.out)); (case aF => exact (fun k_ hk => ⟨Kd.fresh' (Kd.R_lt (mR_ HO266.out)) k_ hk, Kd.freshB (g := gb271) (o := .cells #[.int .i64 t268, .int .i64 t269, .int .i64 t270] 57 (0, 0)) (mB_ BK271.out) k_ hk⟩)); (case aO => exact (mR_ HO_3.out)); (case aS => exact (below_size (zs GE271.out))); (case aL => have := LMc18.out; omega); intro v275 w34 ho hb hg hat; rw [← Ny274.out] at ho; have n0_ := aM (Kd.R_after (ok := (fun k_ => k_ ≠ gb271)) (by (with_reducible repeat (first | apply Kd.R_alloc | apply Kd.R_drewN | apply Kd.R_drew)); exact Kd.R_mono HO266.out (fun _ hk => ⟨hk.2, hk.1⟩)) hg hat); have n1_ := aM (blk_grown (g := gb271) (o := .cells #[.int .i64 t268, .int .i64 t269, .int .i64 t270] 57 (0, 0)) (mB_ BK271.out) hg (Kd.R_away HO_3.out (fun _ hk => hk.2))); have n2_ := aM (hb); have n3_ := aM (ho); clear HO266; clear BK271; clear HB; clear HO_3; have HO266 := n0_; have BK271 := n1_; have HB := n2_; have HO276 := n3_; clear n0_ n1_ n2_ n3_; clear ho hb hg hat))
     go_roundg k2
     case measure => have := HK1.out; have := HK2.out; omega
     case rel => exact ⟨(y274), (wrap64 (x5_2 + 1)), zr, H', ⟨by have := HK1.out; have := HK2.out; omega⟩, ⟨by (with_reducible repeat (first | apply Kd.R_alloc | apply Kd.R_drewN | apply Kd.R_drew)); exact Kd.R_mono HO276.out (fun _ hk => trivial)⟩, ⟨zs GE271.out⟩⟩
end Go.Proofs.Ytabdmdkoffpppaa.F
end
section
namespace Go.Proofs.Ytabdmdkoffpppaa.F
open Go.RowKit Go.Proofs.YtabdmdkoffpppaaW.PrintWords Go.Proofs.YtabdmdkoffpppaaW.PrintLast Go.Proofs.YtabdmdkoffpppaaW.PrintMore
attribute [local go_sem] max2_int min2_int max_two min_two max_three min_three max_four min_four
set_option linter.unusedVariables false
set_option linter.unusedSimpArgs false
def spec_IsSolid.f (k : Nat) (l0 : List (S57)) : Option (Bool × Bool) := (spec_l09Solid.f k l0).bind fun t277 => (if t277 = true then ((spec_l09Connected.f k l0).bind fun t278 => (some (true, t278))) else (some (false, false)))
theorem spec_IsSolid.calls (k : Nat) (A0 : Option Addr) (c0 : Nat) (l0 : List (S57)) (r1 : Bool) (r2 : Bool) (w : World) (hr0 : Kd.C k57 w A0 l0.length l0) (hc0 : l0.length ≤ c0) (h : spec_IsSolid.f k l0 = some (r1, r2)) :
  Calls Try.prog 24 #[.slice A0 l0.length c0] w fun e w' => e = .returned (.tuple #[.bool r1, .bool r2]) ∧ Below w.heap.size w w' := by
 have HR0 := aM hr0
 have HC0 := aM hc0
 clear hr0 hc0
 have HB := aM (Below.refl w.heap.size w)
 have H : ((spec_l09Solid.f k l0).bind fun t277 => (if t277 = true then ((spec_l09Connected.f k l0).bind fun t278 => (some (true, t278))) else (some (false, false)))) = some (r1, r2) := h
 clear h
 replace H := Option.bind_eq_some_iff.mp H
 obtain ⟨t277, A20, H⟩ := H
 replace H : (if t277 = true then ((spec_l09Connected.f k l0).bind fun t278 => (some (true, t278))) else (some (false, false))) = some (r1, r2) := H
 have A2 := aM A20
 clear A20
 by_cases c3 : t277 = true
 rotate_left
 ·replace c3 := Bool.eq_false_iff.mpr c3
  subst c3
  have H1 : (some (false, false)) = some (r1, r2) := by rw [if_neg (show ¬ (false = true) by decide)] at H; exact H
  clear H
  have H := H1
  clear H1
  simp only [Option.some.injEq, Prod.mk.injEq] at H
  obtain ⟨rfl, rfl⟩ := H
  go_enter Try.func24, Try.ntmps24
  go_wp2_with (first | ((with_reducible refine gate_callee (f := 76) rfl ?_); refine goesL_ (some 5) rfl rfl Try.func76 (by kernel_rfl) rfl #[.slice A0 l0.length c0] rfl zm ?_; (with_reducible refine (spec_l09Solid.calls k _ _ l0 false _ ?side1 ?side2 A2.out).mono ?_); (case side1 => repeat (first | exact HR0.out | (with_reducible refine Kd.C_alloc ?_ _) | (with_reducible refine Kd.C_drewN ?_ _) | (with_reducible refine Kd.C_drew ?_))); (case side2 => exact HC0.out); rintro e w7 ⟨rfl, hb⟩; refine ⟨_, rfl, ?_⟩; have n0_ := aM (below_step zb hb); clear HB; have HB := n0_; clear n0_; (try clear hb); (try clear hb2); (try clear hk); (try clear hi)))
  go_ret2
  exact ⟨zw, zb⟩
 subst c3
 have H1 : ((spec_l09Connected.f k l0).bind fun t278 => (some (true, t278))) = some (r1, r2) := by rw [if_pos rfl] at H; exact H
 clear H
 have H := H1
 clear H1
 replace H := Option.bind_eq_some_iff.mp H
 obtain ⟨t278, A40, H⟩ := H
 replace H : (some (true, t278)) = some (r1, r2) := H
 have A4 := aM A40
 clear A40
 simp only [Option.some.injEq, Prod.mk.injEq] at H
 obtain ⟨rfl, rfl⟩ := H
 go_enter Try.func24, Try.ntmps24
 go_wp2_with (first | ((with_reducible refine gate_callee (f := 76) rfl ?_); refine goesL_ (some 5) rfl rfl Try.func76 (by kernel_rfl) rfl #[.slice A0 l0.length c0] rfl zm ?_; (with_reducible refine (spec_l09Solid.calls k _ _ l0 true _ ?side1 ?side2 A2.out).mono ?_); (case side1 => repeat (first | exact HR0.out | (with_reducible refine Kd.C_alloc ?_ _) | (with_reducible refine Kd.C_drewN ?_ _) | (with_reducible refine Kd.C_drew ?_))); (case side2 => exact HC0.out); rintro e w5 ⟨rfl, hb⟩; refine ⟨_, rfl, ?_⟩; have n0_ := aM (below_step zb hb); clear HB; have HB := n0_; clear n0_; (try clear hb); (try clear hb2); (try clear hk); (try clear hi)) | ((with_reducible refine gate_callee (f := 85) rfl ?_); refine goesL_ (some 8) rfl rfl Try.func85 (by kernel_rfl) rfl #[.slice A0 l0.length c0] rfl zm ?_; (with_reducible refine (spec_l09Connected.calls k _ _ l0 t278 _ ?side1 ?side2 A4.out).mono ?_); (case side1 => repeat (first | exact (Kd.C_below HR0.out HB.out) | (with_reducible refine Kd.C_alloc ?_ _) | (with_reducible refine Kd.C_drewN ?_ _) | (with_reducible refine Kd.C_drew ?_))); (case side2 => exact HC0.out); rintro e w6 ⟨rfl, hb⟩; refine ⟨_, rfl, ?_⟩; have n0_ := aM (below_step zb hb); clear HB; have HB := n0_; clear n0_; (try clear hb); (try clear hb2); (try clear hk); (try clear hi)))
 go_ret2
 exact ⟨zw, zb⟩
mutual
def impl_connectedCubes.l0 : Nat → List (S57) → List (S57) → Int → Option (Bool)
 | 0, _, _, _ => none
 | k + 1, x0, x3, x4 => if x4 < (x3.length : Int) then (if 0 ≤ x4 then ((impl_cubesAround.f ((rd_T57 x3 x4).f0) ((rd_T57 x3 x4).f1) ((rd_T57 x3 x4).f2)).bind fun t284 => (impl_connectedCubes.l1 k x0 x3 x4 t284 (t284.length : Int) 0)) else (none)) else (some ((x3.length : Int) == (x0.length : Int)))
def impl_connectedCubes.l1 : Nat → List (S57) → List (S57) → Int → List (S57) → Int → Int → Option (Bool)
 | 0, _, _, _, _, _, _ => none
 | k + 1, x0, x3, x4, x21, x22, x23 => if x23 < x22 then (if 0 ≤ x23 then (if x23 < (x21.length : Int) then ((impl_Cube_83.f k x0 ((rd_T57 x21 x23).f0) ((rd_T57 x21 x23).f1) ((rd_T57 x21 x23).f2)).bind fun t289 => (if t289 = true then ((impl_Cube_83.f k x3 ((rd_T57 x21 x23).f0) ((rd_T57 x21 x23).f1) ((rd_T57 x21 x23).f2)).bind fun t290 => (if t290 = true then (impl_connectedCubes.l1 k x0 x3 x4 x21 x22 (wrap64 (x23 + 1))) else (if x3.length < 5864062014805 then (impl_connectedCubes.l1 k x0 (x3 ++ [(⟨(rd_T57 x21 x23).f0, (rd_T57 x21 x23).f1, (rd_T57 x21 x23).f2⟩ : S57)]) x4 x21 x22 (wrap64 (x23 + 1))) else (none)))) else (impl_connectedCubes.l1 k x0 x3 x4 x21 x22 (wrap64 (x23 + 1))))) else (none)) else (none)) else (impl_connectedCubes.l0 k x0 x3 (wrap64 (x4 + 1)))
end
def impl_connectedCubes.f (k : Nat) (l0 : List (S57)) : Option (Bool) := if 0 < (l0.length : Int) then (impl_connectedCubes.l0 k l0 (([(⟨(rd_T57 l0 0).f0, (rd_T57 l0 0).f1, (rd_T57 l0 0).f2⟩ : S57)] : List (S57))) 0) else (none)
end Go.Proofs.Ytabdmdkoffpppaa.F
end
