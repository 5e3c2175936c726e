/- The row of FnLayers, with what it needs: text 6 of 10. -/
import Derived.Test.YtdcpahfpnjnmcaaKLY4
set_option maxHeartbeats 8000000
set_option maxRecDepth 100000
section
namespace Go.Proofs.Ytdcpahfpnjnmcaa.F
open Go.RowKit Go.Proofs.YtdcpahfpnjnmcaaW.PrintWords Go.Proofs.YtdcpahfpnjnmcaaW.PrintLast Go.Proofs.YtdcpahfpnjnmcaaW.PrintMore
attribute [local go_sem] max2_int min2_int max_two min_two max_three min_three max_four min_four
set_option linter.unusedVariables false
set_option linter.unusedSimpArgs false
abbrev spec_l09Sort.c3 (w : World) (a : Addr) (i : Int) (l : List S47) (R : Prop) : Prop := w.cell? (a.add (i.toNat * 3)) = some (.int .i64 ((rd_T47 l i).f0)) ∧ w.cell? ⟨(a.add (i.toNat * 3)).block, (a.add (i.toNat * 3)).off + 1, none⟩ = some (.int .i64 ((rd_T47 l i).f1)) ∧ w.cell? ⟨(a.add (i.toNat * 3)).block, (a.add (i.toNat * 3)).off + 2, none⟩ = some (.int .i64 ((rd_T47 l i).f2)) ∧ R
abbrev spec_l09Sort.d3 (w : World) (a : Addr) (i : Int) (l : List S47) : Prop := w.cell? (a.add (i.toNat * 3)) = some (.int .i64 ((rd_T47 l i).f0)) ∧ w.cell? ⟨(a.add (i.toNat * 3)).block, (a.add (i.toNat * 3)).off + 1, none⟩ = some (.int .i64 ((rd_T47 l i).f1)) ∧ w.cell? ⟨(a.add (i.toNat * 3)).block, (a.add (i.toNat * 3)).off + 2, none⟩ = some (.int .i64 ((rd_T47 l i).f2))
theorem spec_l09Sort.calls (k : Nat) (A0 : Option Addr) (c0 : Nat) (l0 : List (S47)) (r : List (S47)) (w : World) (hr0 : Kd.C k47 w A0 l0.length l0) (hc0 : l0.length ≤ c0) (h : spec_l09Sort.f k l0 = some r) :
  Calls Try.prog 75 #[.slice A0 l0.length c0] w fun e w' => ∃ v0_ : Value, e = .returned (v0_) ∧ Kd.R k47 47 w' w.heap.size (fun _ => True) v0_ r ∧ Below w.heap.size w w' := by
 have hu47 := Try.underlying47
 have HR0 := aM hr0
 have HC0 := aM hc0
 clear hr0 hc0
 have HB := aM (Below.refl w.heap.size w)
 have H : (spec_l09Sort.l0 k l0 (([] : List (S47))) 0) = some r := h
 clear h
 obtain ⟨y301, hy301⟩ : ∃ y_ : List (S47), y_ = (([] : List (S47))) := ⟨_, rfl⟩
 replace H : (spec_l09Sort.l0 k l0 y301 0) = some r := zy H hy301
 have Ny301 := aM hy301
 clear hy301
 have H' := aM H
 clear H
 go_enter Try.func75, Try.ntmps75
 go_wp2_with (first | ((with_reducible refine gate_dst (N := 6) rfl ?_); refine Kd.R_lit k47 _ 47 ?hg (N := 6) ?hd (xs := ([] : List (S47))) (inner := []) (ok := fun _ => True) (okp := fun _ => True) ?hr ?hp (fun _ hk => hk) trivial (Below.refl _ _) (Nat.le_refl _) (by simp) ?_; (case hd => rfl); (case hg => rfl); (case hr => first | (go_simp; done) | (go_simp; rfl)); (case hp => exact (Reps.none _ _)); intro v302 w2 ho3 hb hg_ hnew_; clear hg_ hnew_; (first | rw [← Ny301.out] at ho3 | (simp only [Int.reduceToNat] at ho3; rw [← Ny301.out] at ho3)); have n0_ := aM (Kd.R_lower ho3 (below_size zb)); have n1_ := aM (below_step zb hb); clear HB; have HO303 := n0_; have HB := n1_; clear n0_ n1_; clear hb ho3))
 go_loopg [3, 4] k (fun kq v3 v4 w' => ∃ (x3_1 : List (S47)) (x4_1 : Int), v4 = .int .i64 x4_1 ∧ Aside0 (spec_l09Sort.l0 kq l0 x3_1 x4_1 = some r) ∧ Aside0 (kq ≤ k) ∧ Aside0 (Kd.R k47 47 w' w.heap.size (fun _ => True) v3 x3_1) ∧ Aside0 (Below w.heap.size w w'))
 case atStart => exact ⟨(y301), (0), zr, H', ⟨Nat.le_refl _⟩, ⟨mR_ HO303.out⟩, ⟨zb⟩⟩
 case round =>
  clear H'
  try clear p2
  obtain ⟨x3_1, x4_1, rfl, HA, HK1, HO_3, HB⟩ := hrel
  cases gk with
  | zero => exact absurd HA.out (by simp [spec_l09Sort.l0])
  | succ k1 =>
   have H := HA.out
   clear HA
   simp only [spec_l09Sort.l0] at H
   by_cases c4 : x4_1 < (l0.length : Int)
   rotate_left
   ·rw [if_neg c4] at H
    have c4b0 : decide (x4_1 < (l0.length : Int)) = false := decide_eq_false c4
    clear c4
    obtain rfl := Option.some.inj H
    go_wp2
    go_ret
    exact ⟨_, zw, mR_ HO_3.out, zb⟩
   rw [if_pos c4] at H
   have c4b0 : decide (x4_1 < (l0.length : Int)) = true := decide_eq_true c4
   clear c4
   have H' := aM H
   clear H
   go_wp2
   go_loopg [5] k1 (fun kq v5 w' => ∃ (x5_2 : Int), v5 = .int .i64 x5_2 ∧ Aside0 (spec_l09Sort.l1 kq l0 x3_1 x4_1 x5_2 = some r) ∧ Aside0 (kq ≤ k1) ∧ Aside0 (Kd.R k47 47 w' w.heap.size (fun _ => True) u3 x3_1) ∧ Aside0 (Below w.heap.size w w'))
   case atStart => exact ⟨(0), zr, H', ⟨Nat.le_refl _⟩, ⟨mR_ HO_3.out⟩, ⟨zb⟩⟩
   case round =>
    clear H'
    try clear p2
    try clear c4
    try clear c4b0
    try clear p2
    obtain ⟨x5_2, rfl, HA, HK2, HO_3, HB⟩ := hrel
    cases gk with
    | zero => exact absurd HA.out (by simp [spec_l09Sort.l1])
    | succ k2 =>
     have H := HA.out
     clear HA
     simp only [spec_l09Sort.l1] at H
     by_cases c5 : x5_2 < (x3_1.length : Int)
     rotate_left
     ·rw [if_neg c5] at H
      have c5b0 : decide (x5_2 < (x3_1.length : Int)) = false := decide_eq_false c5
      clear c5
      obtain ⟨y331, hy331⟩ : ∃ y_ : List (S47), y_ = (([] : List (S47))) := ⟨_, rfl⟩
      replace H : (if 0 ≤ x5_2 then (if x5_2 ≤ (x3_1.length : Int) then ((some (x3_1.take (x5_2 : Int).toNat : List (S47))).bind fun y334 => (if y331.length + y334.length < 5864062014805 then ((some (y331 ++ y334 : List (S47))).bind fun y338 => (if 0 ≤ x4_1 then (if x4_1 < (l0.length : Int) then ((some (([(⟨(rd_T47 l0 x4_1).f0, (rd_T47 l0 x4_1).f1, (rd_T47 l0 x4_1).f2⟩ : S47)] : List (S47)) : List (S47))).bind fun y342 => (if y338.length + y342.length < 5864062014805 then ((some (y338 ++ y342 : List (S47))).bind fun y345 => ((some (x3_1.drop (x5_2 : Int).toNat : List (S47))).bind fun y348 => (if y345.length + y348.length < 5864062014805 then (spec_l09Sort.l0 k2 l0 (y345 ++ y348) (wrap64 (x4_1 + 1))) else (none)))) else (none))) else (none)) else (none))) else (none))) else (none)) else (none)) = some r := zy H hy331
      have Ny331 := aM hy331
      clear hy331
      by_cases c36 : 0 ≤ x5_2
      rotate_left
      ·rw [if_neg c36] at H
       exact absurd H (by simp)
      rw [if_pos c36] at H
      have c36b0 := eq_true c36
      have c36b1 : decide (0 ≤ x5_2) = true := decide_eq_true c36
      clear c36
      by_cases c37 : x5_2 ≤ (x3_1.length : Int)
      rotate_left
      ·rw [if_neg c37] at H
       exact absurd H (by simp)
      rw [if_pos c37] at H
      have c37b0 := eq_true c37
      have c37b1 : decide (x5_2 ≤ (x3_1.length : Int)) = true := decide_eq_true c37
      clear c37
      obtain ⟨y334, hy334⟩ : ∃ y_ : List (S47), y_ = (x3_1.take (x5_2 : Int).toNat) := ⟨_, rfl⟩
      replace H : (if y331.length + y334.length < 5864062014805 then ((some (y331 ++ y334 : List (S47))).bind fun y338 => (if 0 ≤ x4_1 then (if x4_1 < (l0.length : Int) then ((some (([(⟨(rd_T47 l0 x4_1).f0, (rd_T47 l0 x4_1).f1, (rd_T47 l0 x4_1).f2⟩ : S47)] : List (S47)) : List (S47))).bind fun y342 => (if y338.length + y342.length < 5864062014805 then ((some (y338 ++ y342 : List (S47))).bind fun y345 => ((some (x3_1.drop (x5_2 : Int).toNat : List (S47))).bind fun y348 => (if y345.length + y348.length < 5864062014805 then (spec_l09Sort.l0 k2 l0 (y345 ++ y348) (wrap64 (x4_1 + 1))) else (none)))) else (none))) else (none)) else (none))) else (none)) = some r := zy H hy334
      have Ny334 := aM hy334
      clear hy334
      by_cases c38 : y331.length + y334.length < 5864062014805
      rotate_left
      ·rw [if_neg c38] at H
       exact absurd H (by simp)
      rw [if_pos c38] at H
      have LMc38 := aM c38
      clear c38
      obtain ⟨y338, hy338⟩ : ∃ y_ : List (S47), y_ = (y331 ++ y334) := ⟨_, rfl⟩
      replace H : (if 0 ≤ x4_1 then (if x4_1 < (l0.length : Int) then ((some (([(⟨(rd_T47 l0 x4_1).f0, (rd_T47 l0 x4_1).f1, (rd_T47 l0 x4_1).f2⟩ : S47)] : List (S47)) : List (S47))).bind fun y342 => (if y338.length + y342.length < 5864062014805 then ((some (y338 ++ y342 : List (S47))).bind fun y345 => ((some (x3_1.drop (x5_2 : Int).toNat : List (S47))).bind fun y348 => (if y345.length + y348.length < 5864062014805 then (spec_l09Sort.l0 k2 l0 (y345 ++ y348) (wrap64 (x4_1 + 1))) else (none)))) else (none))) else (none)) else (none)) = some r := zy H hy338
      have Ny338 := aM hy338
      clear hy338
      by_cases c39 : 0 ≤ x4_1
      rotate_left
      ·rw [if_neg c39] at H
       exact absurd H (by simp)
      rw [if_pos c39] at H
      have c39b0 : decide (0 ≤ x4_1) = true := decide_eq_true c39
      clear c39
      by_cases c40 : x4_1 < (l0.length : Int)
      rotate_left
      ·rw [if_neg c40] at H
       exact absurd H (by simp)
      rw [if_pos c40] at H
      have c40b0 : decide (x4_1 < (l0.length : Int)) = true := decide_eq_true c40
      clear c40
      obtain ⟨y342, hy342⟩ : ∃ y_ : List (S47), y_ = (([(⟨(rd_T47 l0 x4_1).f0, (rd_T47 l0 x4_1).f1, (rd_T47 l0 x4_1).f2⟩ : S47)] : List (S47))) := ⟨_, rfl⟩
      replace H : (if y338.length + y342.length < 5864062014805 then ((some (y338 ++ y342 : List (S47))).bind fun y345 => ((some (x3_1.drop (x5_2 : Int).toNat : List (S47))).bind fun y348 => (if y345.length + y348.length < 5864062014805 then (spec_l09Sort.l0 k2 l0 (y345 ++ y348) (wrap64 (x4_1 + 1))) else (none)))) else (none)) = some r := zy H hy342
      have Ny342 := aM hy342
      clear hy342
      by_cases c41 : y338.length + y342.length < 5864062014805
      rotate_left
      ·rw [if_neg c41] at H
       exact absurd H (by simp)
      rw [if_pos c41] at H
      have LMc41 := aM c41
      clear c41
      obtain ⟨y345, hy345⟩ : ∃ y_ : List (S47), y_ = (y338 ++ y342) := ⟨_, rfl⟩
      replace H : ((some (x3_1.drop (x5_2 : Int).toNat : List (S47))).bind fun y348 => (if y345.length + y348.length < 5864062014805 then (spec_l09Sort.l0 k2 l0 (y345 ++ y348) (wrap64 (x4_1 + 1))) else (none))) = some r := zy H hy345
      have Ny345 := aM hy345
      clear hy345
      have c42b0 := eq_true (of_decide_eq_true za : 0 ≤ x5_2)
      have c43b0 := eq_true (of_decide_eq_true za : x5_2 ≤ (x3_1.length : Int))
      obtain ⟨y348, hy348⟩ : ∃ y_ : List (S47), y_ = (x3_1.drop (x5_2 : Int).toNat) := ⟨_, rfl⟩
      replace H : (if y345.length + y348.length < 5864062014805 then (spec_l09Sort.l0 k2 l0 (y345 ++ y348) (wrap64 (x4_1 + 1))) else (none)) = some r := zy H hy348
      have Ny348 := aM hy348
      clear hy348
      by_cases c44 : y345.length + y348.length < 5864062014805
      rotate_left
      ·rw [if_neg c44] at H
       exact absurd H (by simp)
      rw [if_pos c44] at H
      have LMc44 := aM c44
      clear c44
      obtain ⟨y352, hy352⟩ : ∃ y_ : List (S47), y_ = (y345 ++ y348) := ⟨_, rfl⟩
      replace H : (spec_l09Sort.l0 k2 l0 y352 (wrap64 (x4_1 + 1))) = some r := zy H hy352
      have Ny352 := aM hy352
      clear hy352
      have H' := aM H
      clear H
      try go_wp2
      have n0_ := aM (Kd.R_drew HO_3.out)
      have n1_ := aM (below_drew1 HB.out)
      clear HO_3
      clear HB
      have HO_3 := n0_
      have HB := n1_
      clear n0_ n1_
      obtain ⟨Ao46, co46, eo46⟩ := Kd.R_slice HO_3.out
      (first | subst eo46 | (injection eo46 with f1_ f2_ f3_; have f4_ := f1_.symm; have f5_ := f3_.symm; clear f1_ f2_ f3_; subst f4_; subst f5_))
      refine start_ (n := 15) (S := fun w' => True) (ds := []) #[false, false, false, false, false, false, false, false, false, false, false, false, false, false, false] (by kernel_rfl) rfl rfl trivial (fun hHeld => ?_); refine with_tabW spec_l09Sort.tab6 spec_l09Sort.bits6 (fun HT_ HW_ => ?_)
      generalize wr.drew = w45 at HO_3 HB hHeld ⊢
      refine pure_ (i := 0) (N := some 13) (v := ?_) (a' := ?_) #[true, false, false, false, false, false, false, false, false, false, false, false, false, false, false] rfl rfl zz (fun _ _ _ h => h) (Or.inl ⟨by rfl, ?_⟩) ?_ ?_
      rotate_left
      ·intro w'
       go_simp
       with_reducible rfl
      rotate_left
      ·simp only [Act.put, xA, xB, xC, i64_w, i32_w]
       rfl
      refine pure_ (i := 1) (N := some 14) (v := ?_) (a' := ?_) #[true, true, false, false, false, false, false, false, false, false, false, false, false, false, false] rfl rfl zz (fun _ _ _ h => h) (Or.inl ⟨by rfl, ?_⟩) ?_ ?_
      rotate_left
      ·intro w'
       go_simp
       with_reducible rfl
      rotate_left
      ·simp only [Act.put, xA, xB, xC, i64_w, i32_w]
       rfl
      refine pure_ (i := 2) (N := some 15) (v := ?_) (a' := ?_) #[true, true, true, false, false, false, false, false, false, false, false, false, false, false, false] rfl rfl zz (fun _ _ _ h => h) (Or.inl ⟨by rfl, ?_⟩) ?_ ?_
      rotate_left
      ·intro w'
       go_simp
       with_reducible rfl
      rotate_left
      ·simp only [Act.put, xA, xB, xC, i64_w, i32_w]
       rfl
      refine pure_ (i := 3) (N := some 16) (v := ?_) (a' := ?_) #[true, true, true, true, false, false, false, false, false, false, false, false, false, false, false] rfl rfl zz (fun _ _ _ h => h) (Or.inl ⟨by rfl, ?_⟩) ?_ ?_
      rotate_left
      ·intro w'
       go_simp
       with_reducible rfl
      rotate_left
      ·simp only [Act.put, xA, xB, xC, i64_w, i32_w]
       rfl
      refine pure_ (i := 4) (N := some 17) (v := ?_) (a' := ?_) #[true, true, true, true, true, false, false, false, false, false, false, false, false, false, false] rfl rfl zz (fun _ _ _ h => h) (Or.inl ⟨by rfl, ?_⟩) ?_ ?_
      rotate_left
      ·intro w'
       go_simp
       with_reducible rfl
      rotate_left
      ·simp only [Act.put, xA, xB, xC, i64_w, i32_w]
       rfl
      refine pure_ (i := 5) (N := some 18) (v := undef) (a' := ?_) #[true, true, true, true, true, true, false, false, false, false, false, false, false, false, false] rfl rfl zz (fun _ _ _ h => h) (Or.inr ⟨by rfl, rfl⟩) ?_ ?_
      rotate_left
      ·simp only [Act.put, xA, xB, xC, i64_w, i32_w]
       rfl
      refine pure_ (i := 6) (N := some 19) (v := undef) (a' := ?_) #[true, true, true, true, true, true, true, false, false, false, false, false, false, false, false] rfl rfl zz (fun _ _ _ h => h) (Or.inr ⟨by rfl, rfl⟩) ?_ ?_
      rotate_left
      ·simp only [Act.put, xA, xB, xC, i64_w, i32_w]
       rfl
      refine pure_ (i := 7) (N := some 20) (v := undef) (a' := ?_) #[true, true, true, true, true, true, true, true, false, false, false, false, false, false, false] rfl rfl zz (fun _ _ _ h => h) (Or.inr ⟨by rfl, rfl⟩) ?_ ?_
      rotate_left
      ·simp only [Act.put, xA, xB, xC, i64_w, i32_w]
       rfl
      refine pure_ (i := 8) (N := some 21) (v := undef) (a' := ?_) #[true, true, true, true, true, true, true, true, true, false, false, false, false, false, false] rfl rfl zz (fun _ _ _ h => h) (Or.inr ⟨by rfl, rfl⟩) ?_ ?_
      rotate_left
      ·simp only [Act.put, xA, xB, xC, i64_w, i32_w]
       rfl
      refine pure_ (i := 9) (N := some 22) (v := undef) (a' := ?_) #[true, true, true, true, true, true, true, true, true, true, false, false, false, false, false] rfl rfl zz (fun _ _ _ h => h) (Or.inr ⟨by rfl, rfl⟩) ?_ ?_
      rotate_left
      ·simp only [Act.put, xA, xB, xC, i64_w, i32_w]
       rfl
      refine pure_ (i := 10) (N := some 23) (v := undef) (a' := ?_) #[true, true, true, true, true, true, true, true, true, true, true, false, false, false, false] rfl rfl zz (fun _ _ _ h => h) (Or.inr ⟨by rfl, rfl⟩) ?_ ?_
      rotate_left
      ·simp only [Act.put, xA, xB, xC, i64_w, i32_w]
       rfl
      refine pure_ (i := 11) (N := some 24) (v := undef) (a' := ?_) #[true, true, true, true, true, true, true, true, true, true, true, true, false, false, false] rfl rfl zz (fun _ _ _ h => h) (Or.inr ⟨by rfl, rfl⟩) ?_ ?_
      rotate_left
      ·simp only [Act.put, xA, xB, xC, i64_w, i32_w]
       rfl
      refine pure_ (i := 12) (N := some 25) (v := undef) (a' := ?_) #[true, true, true, true, true, true, true, true, true, true, true, true, true, false, false] rfl rfl zz (fun _ _ _ h => h) (Or.inr ⟨by rfl, rfl⟩) ?_ ?_
      rotate_left
      ·simp only [Act.put, xA, xB, xC, i64_w, i32_w]
       rfl
      refine pure_ (i := 13) (N := some 26) (v := undef) (a' := ?_) #[true, true, true, true, true, true, true, true, true, true, true, true, true, true, false] rfl rfl zz (fun _ _ _ h => h) (Or.inr ⟨by rfl, rfl⟩) ?_ ?_
      rotate_left
      ·simp only [Act.put, xA, xB, xC, i64_w, i32_w]
       rfl
      refine pure_ (i := 14) (N := some 27) (v := ?_) (a' := ?_) #[true, true, true, true, true, true, true, true, true, true, true, true, true, true, true] rfl rfl zz (fun _ _ _ h => h) (Or.inl ⟨by rfl, ?_⟩) ?_ ?_
      rotate_left
      ·intro w'
       go_simp
       with_reducible rfl
      rotate_left
      ·simp only [Act.put, xA, xB, xC, i64_w, i32_w]
       rfl
      refine done_ (done_of HT_.out (by kernel_rfl)) ?_
      try go_wp2
      have n0_ := aM (Kd.R_drew HO_3.out)
      have n1_ := aM (below_drew1 HB.out)
      clear HO_3
      clear HB
      have HO_3 := n0_
      have HB := n1_
      clear n0_ n1_
      have q48 : (x5_2 : Int) ≤ ((x3_1.length : Int) : Int) := of_decide_eq_true za
      obtain ⟨i048, hi048, _, hsz48, _⟩ := info_parts info47
      have hroom48 : x3_1.length ≤ co46 := (Kd.R_reads' HO_3.out).2.1
      have hC48 : Kd.C k47 _ Ao46 x3_1.length x3_1 := (Kd.R_reads' HO_3.out).2.2
      have hcut48 := cut_to (P := Try.prog) 35 47 .i64 Try.underlying35 hi048 Ao46 x3_1.length co46 x5_2 (of_decide_eq_true za) q48 hroom48
      have hr48 := Kd.C_take (m := (x5_2 : Int).toNat) hC48 (by omega)
      have hy48 : y334.length = (x5_2 : Int).toNat := (by rw [Ny334.out, List.length_take]; omega)
      rw [← Ny334.out] at hr48
      rw [← hy48] at hcut48
      have HR337 := aM hr48
      have HC337 := aM (show y334.length ≤ co46 from by omega)
      clear hr48 hC48 hroom48 hi048 hsz48
      have KY48 := aM hy48
      clear hy48
      have KL48 := aM (show (x5_2 : Int).toNat ≤ x3_1.length from by omega)
      replace q48 := eq_true q48
      have p341 : 0 ≤ (x4_1 : Int) := of_decide_eq_true za
      have q341 : x4_1 < (l0.length : Int) := of_decide_eq_true za
      obtain ⟨ad341, e341, hx341_0, hx341_1, hx341_2⟩ := at_T47 HR0.out x4_1 p341 q341
      have hw341_2 := hx341_2
      have hw341_1 := hx341_1
      have hw341_0 := hx341_0
      cases e341
      replace hx341_0 := (HB.out.cell (World.block_lt_of_cell? w _ hx341_0)).trans hx341_0
      replace hx341_1 := (HB.out.cell (World.block_lt_of_cell? w _ hx341_1)).trans hx341_1
      replace hx341_2 := (HB.out.cell (World.block_lt_of_cell? w _ hx341_2)).trans hx341_2
      replace p341 := eq_true p341
      replace q341 := eq_true q341
      have q49 : (x5_2 : Int) ≤ ((x3_1.length : Int) : Int) := of_decide_eq_true za
      obtain ⟨i049, hi049, _, hsz49, _⟩ := info_parts info47
      have hroom49 : x3_1.length ≤ co46 := (Kd.R_reads' HO_3.out).2.1
      have hC49 : Kd.C k47 _ Ao46 x3_1.length x3_1 := (Kd.R_reads' HO_3.out).2.2
      have q049 : (0 : Int) ≤ (x5_2 : Int) := of_decide_eq_true za
      have hcut49 := cut_from (P := Try.prog) 35 47 .i64 Try.underlying35 hi049 3 hsz49 Ao46 x3_1.length co46 x5_2 q049 q49
      have hr49 := Kd.C_drop (m := (x5_2 : Int).toNat) (c := co46) hC49 (by omega) hroom49
      obtain ⟨A49, hA49⟩ : ∃ A1, A1 = (if co46 = (x5_2 : Int).toNat then Ao46 else (Ao46 : Option Addr).map (·.add ((x5_2 : Int).toNat * 3))) := ⟨_, rfl⟩
      obtain ⟨c49, hc49⟩ : ∃ c1, c1 = co46 - (x5_2 : Int).toNat := ⟨_, rfl⟩
      have hy49 : y348.length = x3_1.length - (x5_2 : Int).toNat := (by rw [Ny348.out, List.length_drop] <;> omega)
      rw [show (x3_1).drop (x5_2 : Int).toNat = y348 from Ny348.out.symm] at hr49
      replace hr49 : Kd.C k47 _ A49 y348.length y348 := (by rw [hA49]; exact hr49)
      rw [← hy49, ← hA49, ← hc49] at hcut49
      have HR351 := aM hr49
      have HC351 := aM (show y348.length ≤ c49 from by rw [hy49, hc49]; exact Nat.sub_le_sub_right hroom49 _)
      clear hr49 hC49 hroom49 hi049 hsz49 hc49
      have KY49 := aM hy49
      have KA49 := aM hA49
      clear hy49 hA49
      have KL49 := aM (show (x5_2 : Int).toNat ≤ x3_1.length from by omega)
      replace q49 := eq_true q49
      refine start_ (n := 16) (S := fun w' => (spec_l09Sort.d3 w' ad341 x4_1 l0)) (ds := []) #[false, false, false, false, false, false, false, false, false, false, false, false, false, false, false, false] (by kernel_rfl) rfl rfl ⟨((HB.out.cell (World.block_lt_of_cell? w _ hw341_0)).trans hw341_0), ((HB.out.cell (World.block_lt_of_cell? w _ hw341_1)).trans hw341_1), ((HB.out.cell (World.block_lt_of_cell? w _ hw341_2)).trans hw341_2)⟩ (fun hHeld => ?_); refine with_tabW spec_l09Sort.tab8 spec_l09Sort.bits8 (fun HT_ HW_ => ?_)
      generalize w45.drew = w47 at HO_3 HB HR337 HR351 hx341_0 hx341_1 hx341_2 hHeld ⊢
      refine pure_ (i := 1) (N := some 31) (v := ?_) (a' := ?_) #[false, true, false, false, false, false, false, false, false, false, false, false, false, false, false, false] rfl rfl zz (fun _ _ _ h => h) (Or.inl ⟨by rfl, ?_⟩) ?_ ?_
      rotate_left
      ·intro w'
       go_simp
       with_reducible rfl
      rotate_left
      ·simp only [Act.put, xA, xB, xC, i64_w, i32_w]
       rfl
      refine pure_ (i := 2) (N := some 32) (v := ?_) (a' := ?_) #[false, true, true, false, false, false, false, false, false, false, false, false, false, false, false, false] rfl rfl zz (fun _ _ _ h => h) (Or.inl ⟨by rfl, ?_⟩) ?_ ?_
      rotate_left
      ·intro w'
       go_simp
       with_reducible rfl
      rotate_left
      ·simp only [Act.put, xA, xB, xC, i64_w, i32_w]
       rfl
      refine pure_ (i := 3) (N := some 33) (v := ?_) (a' := ?_) #[false, true, true, true, false, false, false, false, false, false, false, false, false, false, false, false] rfl rfl zz (fun _ _ _ h => h) (Or.inl ⟨by rfl, ?_⟩) ?_ ?_
      rotate_left
      ·intro w'
       go_simp
       with_reducible rfl
      rotate_left
      ·simp only [Act.put, xA, xB, xC, i64_w, i32_w]
       rfl
      refine pure_ (i := 5) (N := some 35) (v := ?_) (a' := ?_) #[false, true, true, true, false, true, false, false, false, false, false, false, false, false, false, false] rfl rfl zz (fun _ _ _ h => h) (Or.inl ⟨by rfl, ?_⟩) ?_ ?_
      rotate_left
      ·intro w'
       go_simp
       with_reducible rfl
      rotate_left
      ·simp only [Act.put, xA, xB, xC, i64_w, i32_w]
       rfl
      refine pure_ (i := 6) (N := some 36) (v := ?_) (a' := ?_) #[false, true, true, true, false, true, true, false, false, false, false, false, false, false, false, false] rfl rfl zz (fun _ _ _ h => h) (Or.inl ⟨by rfl, ?_⟩) ?_ ?_
      rotate_left
      ·intro w'
       go_simp
       with_reducible rfl
      rotate_left
      ·simp only [Act.put, xA, xB, xC, i64_w, i32_w]
       rfl
      refine pure_ (i := 7) (N := some 37) (v := ?_) (a' := ?_) #[false, true, true, true, false, true, true, true, false, false, false, false, false, false, false, false] rfl rfl zz (fun _ _ _ h => h) (Or.inl ⟨by rfl, ?_⟩) ?_ ?_
      rotate_left
      ·intro w'
       go_simp
       with_reducible rfl
      rotate_left
      ·simp only [Act.put, xA, xB, xC, i64_w, i32_w]
       rfl
      refine pure_ (i := 11) (N := some 41) (v := ?_) (a' := ?_) #[false, true, true, true, false, true, true, true, false, false, false, true, false, false, false, false] rfl rfl zz (fun _ _ _ h => h) (Or.inl ⟨by rfl, ?_⟩) ?_ ?_
      rotate_left
      ·intro w'
       go_simp
       with_reducible rfl
      rotate_left
      ·simp only [Act.put, xA, xB, xC, i64_w, i32_w]
       rfl
      refine pure_ (i := 12) (N := some 42) (v := ?_) (a' := ?_) #[false, true, true, true, false, true, true, true, false, false, false, true, true, false, false, false] rfl rfl zz (fun _ _ _ h => h) (Or.inl ⟨by rfl, ?_⟩) ?_ ?_
      rotate_left
      ·intro w'
       go_simp
       with_reducible rfl
      rotate_left
      ·simp only [Act.put, xA, xB, xC, i64_w, i32_w]
       rfl
      refine pure_ (i := 13) (N := some 43) (v := ?_) (a' := ?_) #[false, true, true, true, false, true, true, true, false, false, false, true, true, true, false, false] rfl rfl zz (fun _ _ _ h => h) (Or.inl ⟨by rfl, ?_⟩) ?_ ?_
      rotate_left
      ·intro w'
       go_simp
       with_reducible rfl
      rotate_left
      ·simp only [Act.put, xA, xB, xC, i64_w, i32_w]
       rfl
      refine take_ (i := 8) (N := some 38) (v := ?_) (a' := ?_) #[false, true, true, true, false, true, true, true, true, false, false, true, true, true, false, false] rfl rfl (take_ofW HT_.out HW_.out (by kernel_rfl)) (fun _ _ _ h => h) (Or.inl ⟨by rfl, ?_⟩) hHeld ?_ ?_
      rotate_left
      ·rintro w' ⟨s0, s1, s2⟩
       go_simp
       with_reducible rfl
      rotate_left
      ·simp only [Act.put, xA, xB, xC, i64_w, i32_w]
       rfl
      refine join_ (σ := Value × Value × Value) 3 #[true, true, true, true, true, true, true, true, true, true, false, true, true, true, false, false] (fun s_ => [(30, s_.1), (34, s_.2.1), (39, s_.2.2)]) (fun s_ w' => ((spec_l09Sort.d3 w' ad341 x4_1 l0)) ∧ (Kd.R k47 47 w' w.heap.size (fun k_ => some k_ ≠ (s_.2.2 : Value).ownBlock ∧ some k_ ≠ (.slice Ao46 x3_1.length co46 : Value).ownBlock) s_.2.1 y338) ∧ (Kd.R k47 47 w' w.heap.size (fun k_ => some k_ ≠ (s_.2.1 : Value).ownBlock ∧ some k_ ≠ (.slice Ao46 x3_1.length co46 : Value).ownBlock) s_.2.2 y342) ∧ (Kd.R k47 47 w' w.heap.size (fun k_ => some k_ ≠ (s_.2.1 : Value).ownBlock ∧ some k_ ≠ (s_.2.2 : Value).ownBlock) (.slice Ao46 x3_1.length co46) x3_1) ∧ (Below w.heap.size w w')) ?_ ?_
      rotate_left
      ·intro hCont
       refine two_ (i := 0) (j := 9) (Ni := some 30) (Nj := some 39) #[true, true, true, true, false, true, true, true, true, false, false, true, true, true, false, false] #[false, true, true, true, false, true, true, true, true, true, false, true, true, true, false, false] rfl rfl rfl rfl (two_of HT_.out (by kernel_rfl)) (by decide) (by decide) (fun K hK => ?_) (fun K hK => ?_)
       ·skip
        refine Kd.R_lit_step k47 _ 47 ?hg (N := 30) ?hd (xs := ([] : List (S47))) (inner := []) (ok := fun _ => True) (okp := fun _ => True) ?hr ?hp (fun _ hk => hk) trivial (Below.refl _ _) (Nat.le_refl _) (by simp) ?_; (case hd => rfl); (case hg => rfl); (case hr => first | (go_simp; done) | (go_simp; rfl)); (case hp => exact (Reps.none _ _))
        intro v332 w50 ho51 hb hg_ hnew_
        clear hg_ hnew_
        (first | rw [← Ny331.out] at ho51 | (simp only [Int.reduceToNat] at ho51; rw [← Ny331.out] at ho51))
        have n0_ := aM (Kd.R_elder' (mR_ HO_3.out) (Kd.R_base ho51) hb)
        have n1_ := aM (Kd.R_lower (Kd.R_new' ho51 (Kd.R_lt (mR_ HO_3.out))) (below_size zb))
        have n2_ := aM (Kd.C_below (mQ_ HR337.out) hb)
        have n3_ := aM (Kd.C_below (mQ_ HR351.out) hb)
        have n4_ := aM (below_step zb hb)
        clear HO_3
        clear HR337
        clear HR351
        clear HB
        have HO_3 := n0_
        have HO333 := n1_
        have HR337 := n2_
        have HR351 := n3_
        have HB := n4_
        clear n0_ n1_ n2_ n3_ n4_
        clear hb ho51
        refine hK.out _ _ ⟨((HB.out.cell (World.block_lt_of_cell? w _ hw341_0)).trans hw341_0), ((HB.out.cell (World.block_lt_of_cell? w _ hw341_1)).trans hw341_1), ((HB.out.cell (World.block_lt_of_cell? w _ hw341_2)).trans hw341_2)⟩ (fun hHeld => ?_)
        clear hK K
        refine norm_ (a' := ?_) ?_ ?_
        rotate_left
        ·show Act.put _ (some 30) _ = _
         simp only [Act.put, xA, xB, xC, i64_w, i32_w]
         rfl
        refine two_ (i := 4) (j := 9) (Ni := some 34) (Nj := some 39) #[true, true, true, true, true, true, true, true, true, false, false, true, true, true, false, false] #[true, true, true, true, false, true, true, true, true, true, false, true, true, true, false, false] rfl rfl rfl rfl (two_of HT_.out (by kernel_rfl)) (by decide) (by decide) (fun K hK => ?_) (fun K hK => ?_)
        ·skip
         refine Kd.R_append_rows_step k47 (w0 := w) w.heap.size (by rfl) (.tmp 30) (.tmp 33) 35 47 (.agg #[(.int .i64 0), (.int .i64 0), (.int .i64 0)]) 24 rfl Try.underlying35 info47 rfl (by decide) (by omega) v332 y331 y334 _ _ _ (fun k_ => some k_ ≠ (.slice Ao46 x3_1.length co46 : Value).ownBlock) (fun _ => False) rfl rfl ?aO ?aR (fun _ _ h => h) (fun _ h => h.elim) ?aF ?aB ?aS ?aL ?_
         (case aR => repeat (first | exact (mQ_ HR337.out) | (with_reducible refine Kd.C_alloc ?_ _) | (with_reducible refine Kd.C_drewN ?_ _) | (with_reducible refine Kd.C_drew ?_)))
         (case aB => exact zb)
         (case aF => exact (fun k_ hk => Kd.fresh' (Kd.R_lt (mR_ HO_3.out)) k_ hk))
         (case aO => exact (by (with_reducible repeat (first | apply Kd.R_alloc | apply Kd.R_drewN | apply Kd.R_drew)); exact Kd.R_mono HO333.out (fun _ hk => hk.2)))
         (case aS => exact (below_size zb))
         (case aL => have := LMc38.out; omega)
         intro v339 w52 ho hb hg hat
         rw [← Ny338.out] at ho
         have n0_ := aM (Kd.R_after (ok := (fun _ => True)) (mR_ HO_3.out) hg hat)
         have n1_ := aM (hb)
         have n2_ := aM ((show Kd.C k47 w52 Ao46 y334.length y334 from by rw [Ny334.out]; exact Kd.C_take (m := (x5_2 : Int).toNat) ((Kd.R_reads' (Kd.R_after (ok := (fun _ => True)) (mR_ HO_3.out) hg hat)).2.2) KL48.out))
         have n3_ := aM ((show Kd.C k47 w52 A49 y348.length y348 from by rw [Ny348.out, KA49.out]; exact Kd.C_drop (m := (x5_2 : Int).toNat) (c := co46) ((Kd.R_reads' (Kd.R_after (ok := (fun _ => True)) (mR_ HO_3.out) hg hat)).2.2) KL49.out ((Kd.R_reads' (Kd.R_after (ok := (fun _ => True)) (mR_ HO_3.out) hg hat)).2.1)))
         have n4_ := aM (ho)
         clear HO_3
         clear HB
         clear HR337
         clear HR351
         clear HO333
         have HO_3 := n0_
         have HB := n1_
         have HR337 := n2_
         have HR351 := n3_
         have HO340 := n4_
         clear n0_ n1_ n2_ n3_ n4_
         clear ho hb hg hat
         refine hK.out _ _ ⟨((HB.out.cell (World.block_lt_of_cell? w _ hw341_0)).trans hw341_0), ((HB.out.cell (World.block_lt_of_cell? w _ hw341_1)).trans hw341_1), ((HB.out.cell (World.block_lt_of_cell? w _ hw341_2)).trans hw341_2)⟩ (fun hHeld => ?_)
         clear hK K
         refine norm_ (a' := ?_) ?_ ?_
         rotate_left
         ·show Act.put _ (some 34) _ = _
          simp only [Act.put, xA, xB, xC, i64_w, i32_w]
          rfl
         refine one_ (i := 9) (N := some 39) #[true, true, true, true, true, true, true, true, true, true, false, true, true, true, false, false] rfl rfl (one_of HT_.out (by kernel_rfl)) (by decide) (fun K hK => ?_)
         refine Kd.R_lit_step k47 _ 47 ?hg (N := 39) ?hd (xs := ([(⟨(rd_T47 l0 x4_1).f0, (rd_T47 l0 x4_1).f1, (rd_T47 l0 x4_1).f2⟩ : S47)] : List (S47))) (inner := [.int .i64 ((rd_T47 l0 x4_1).f0), .int .i64 ((rd_T47 l0 x4_1).f1), .int .i64 ((rd_T47 l0 x4_1).f2)]) (ok := fun _ => True) (okp := fun _ => True) ?hr ?hp (fun _ hk => hk) trivial (Below.refl _ _) (Nat.le_refl _) (by simp) ?_; (case hd => rfl); (case hg => rfl); (case hr => first | (go_simp; done) | (go_simp; rfl)); (case hp => exact (Reps.c3 (show Kd.M k47 _ _ _ (⟨(rd_T47 l0 x4_1).f0, (rd_T47 l0 x4_1).f1, (rd_T47 l0 x4_1).f2⟩ : S47) [.int .i64 ((rd_T47 l0 x4_1).f0), .int .i64 ((rd_T47 l0 x4_1).f1), .int .i64 ((rd_T47 l0 x4_1).f2)] from (k47_mkM _ _ _ (⟨(rd_T47 l0 x4_1).f0, (rd_T47 l0 x4_1).f1, (rd_T47 l0 x4_1).f2⟩ : S47) )) (Reps.none _ _)))
         intro v343 w53 ho54 hb hg_ hnew_
         clear hg_ hnew_
         (first | rw [← Ny342.out] at ho54 | (simp only [Int.reduceToNat] at ho54; rw [← Ny342.out] at ho54))
         have n0_ := aM (Kd.R_elder' (mR_ HO_3.out) (Kd.R_base ho54) hb)
         have n1_ := aM (Kd.R_elder' (mR_ HO340.out) (Kd.R_base ho54) hb)
         have n2_ := aM (Kd.R_lower (Kd.R_new' (Kd.R_new' ho54 (Kd.R_lt (mR_ HO_3.out))) (Kd.R_lt (mR_ HO340.out))) (below_size zb))
         have n3_ := aM (Kd.C_below (mQ_ HR337.out) hb)
         have n4_ := aM (Kd.C_below (mQ_ HR351.out) hb)
         have n5_ := aM (below_step zb hb)
         clear HO_3
         clear HO340
         clear HR337
         clear HR351
         clear HB
         have HO_3 := n0_
         have HO340 := n1_
         have HO344 := n2_
         have HR337 := n3_
         have HR351 := n4_
         have HB := n5_
         clear n0_ n1_ n2_ n3_ n4_ n5_
         clear hb ho54
         refine hK.out _ _ ⟨((HB.out.cell (World.block_lt_of_cell? w _ hw341_0)).trans hw341_0), ((HB.out.cell (World.block_lt_of_cell? w _ hw341_1)).trans hw341_1), ((HB.out.cell (World.block_lt_of_cell? w _ hw341_2)).trans hw341_2)⟩ (fun hHeld => ?_)
         clear hK K
         refine norm_ (a' := ?_) ?_ ?_
         rotate_left
         ·show Act.put _ (some 39) _ = _
          simp only [Act.put, xA, xB, xC, i64_w, i32_w]
          rfl
         exact norm_ (by simp only [putAll, Act.put, xA, xB, xC]) (hCont (v332, v339, v343) _ ⟨hHeld, (by (with_reducible repeat (first | apply Kd.R_alloc | apply Kd.R_drewN | apply Kd.R_drew)); exact Kd.R_mono HO340.out (fun _ hk => ⟨hk.2, hk.1⟩)), (by (with_reducible repeat (first | apply Kd.R_alloc | apply Kd.R_drewN | apply Kd.R_drew)); exact Kd.R_mono HO344.out (fun _ hk => ⟨hk.2, hk.1.2⟩)), (by (with_reducible repeat (first | apply Kd.R_alloc | apply Kd.R_drewN | apply Kd.R_drew)); exact Kd.R_mono HO_3.out (fun _ hk => ⟨hk.1.2, hk.2⟩)), zb⟩)
        ·skip
         refine Kd.R_lit_step k47 _ 47 ?hg (N := 39) ?hd (xs := ([(⟨(rd_T47 l0 x4_1).f0, (rd_T47 l0 x4_1).f1, (rd_T47 l0 x4_1).f2⟩ : S47)] : List (S47))) (inner := [.int .i64 ((rd_T47 l0 x4_1).f0), .int .i64 ((rd_T47 l0 x4_1).f1), .int .i64 ((rd_T47 l0 x4_1).f2)]) (ok := fun _ => True) (okp := fun _ => True) ?hr ?hp (fun _ hk => hk) trivial (Below.refl _ _) (Nat.le_refl _) (by simp) ?_; (case hd => rfl); (case hg => rfl); (case hr => first | (go_simp; done) | (go_simp; rfl)); (case hp => exact (Reps.c3 (show Kd.M k47 _ _ _ (⟨(rd_T47 l0 x4_1).f0, (rd_T47 l0 x4_1).f1, (rd_T47 l0 x4_1).f2⟩ : S47) [.int .i64 ((rd_T47 l0 x4_1).f0), .int .i64 ((rd_T47 l0 x4_1).f1), .int .i64 ((rd_T47 l0 x4_1).f2)] from (k47_mkM _ _ _ (⟨(rd_T47 l0 x4_1).f0, (rd_T47 l0 x4_1).f1, (rd_T47 l0 x4_1).f2⟩ : S47) )) (Reps.none _ _)))
         intro v343 w52 ho53 hb hg_ hnew_
         clear hg_ hnew_
         (first | rw [← Ny342.out] at ho53 | (simp only [Int.reduceToNat] at ho53; rw [← Ny342.out] at ho53))
         have n0_ := aM (Kd.R_elder' (mR_ HO_3.out) (Kd.R_base ho53) hb)
         have n1_ := aM (Kd.R_elder' (mR_ HO333.out) (Kd.R_base ho53) hb)
         have n2_ := aM (Kd.R_lower (Kd.R_new' (Kd.R_new' ho53 (Kd.R_lt (mR_ HO_3.out))) (Kd.R_lt (mR_ HO333.out))) (below_size zb))
         have n3_ := aM (Kd.C_below (mQ_ HR337.out) hb)
         have n4_ := aM (Kd.C_below (mQ_ HR351.out) hb)
         have n5_ := aM (below_step zb hb)
         clear HO_3
         clear HO333
         clear HR337
         clear HR351
         clear HB
         have HO_3 := n0_
         have HO333 := n1_
         have HO344 := n2_
         have HR337 := n3_
         have HR351 := n4_
         have HB := n5_
         clear n0_ n1_ n2_ n3_ n4_ n5_
         clear hb ho53
         refine hK.out _ _ ⟨((HB.out.cell (World.block_lt_of_cell? w _ hw341_0)).trans hw341_0), ((HB.out.cell (World.block_lt_of_cell? w _ hw341_1)).trans hw341_1), ((HB.out.cell (World.block_lt_of_cell? w _ hw341_2)).trans hw341_2)⟩ (fun hHeld => ?_)
         clear hK K
         refine norm_ (a' := ?_) ?_ ?_
         rotate_left
         ·show Act.put _ (some 39) _ = _
          simp only [Act.put, xA, xB, xC, i64_w, i32_w]
          rfl
         refine one_ (i := 4) (N := some 34) #[true, true, true, true, true, true, true, true, true, true, false, true, true, true, false, false] rfl rfl (one_of HT_.out (by kernel_rfl)) (by decide) (fun K hK => ?_)
         refine Kd.R_append_rows_step k47 (w0 := w) w.heap.size (by rfl) (.tmp 30) (.tmp 33) 35 47 (.agg #[(.int .i64 0), (.int .i64 0), (.int .i64 0)]) 24 rfl Try.underlying35 info47 rfl (by decide) (by omega) v332 y331 y334 _ _ _ (fun k_ => some k_ ≠ (.slice Ao46 x3_1.length co46 : Value).ownBlock ∧ some k_ ≠ (v343 : Value).ownBlock) (fun _ => False) rfl rfl ?aO ?aR (fun _ _ h => h) (fun _ h => h.elim) ?aF ?aB ?aS ?aL ?_
         (case aR => repeat (first | exact (mQ_ HR337.out) | (with_reducible refine Kd.C_alloc ?_ _) | (with_reducible refine Kd.C_drewN ?_ _) | (with_reducible refine Kd.C_drew ?_)))
         (case aB => exact zb)
         (case aF => exact (fun k_ hk => ⟨Kd.fresh' (Kd.R_lt (mR_ HO_3.out)) k_ hk, Kd.fresh' (Kd.R_lt (mR_ HO344.out)) k_ hk⟩))
         (case aO => exact (by (with_reducible repeat (first | apply Kd.R_alloc | apply Kd.R_drewN | apply Kd.R_drew)); exact Kd.R_mono HO333.out (fun _ hk => ⟨hk.1.2, hk.2⟩)))
         (case aS => exact (below_size zb))
         (case aL => have := LMc38.out; omega)
         intro v339 w54 ho hb hg hat
         rw [← Ny338.out] at ho
         have n0_ := aM (Kd.R_after (ok := (fun k_ => some k_ ≠ (v343 : Value).ownBlock)) (by (with_reducible repeat (first | apply Kd.R_alloc | apply Kd.R_drewN | apply Kd.R_drew)); exact Kd.R_mono HO_3.out (fun _ hk => ⟨hk.2, hk.1.2⟩)) hg hat)
         have n1_ := aM (Kd.R_after (ok := (fun k_ => some k_ ≠ (.slice Ao46 x3_1.length co46 : Value).ownBlock)) (by (with_reducible repeat (first | apply Kd.R_alloc | apply Kd.R_drewN | apply Kd.R_drew)); exact Kd.R_mono HO344.out (fun _ hk => ⟨hk.1.2, hk.2⟩)) hg hat)
         have n2_ := aM (hb)
         have n3_ := aM ((show Kd.C k47 w54 Ao46 y334.length y334 from by rw [Ny334.out]; exact Kd.C_take (m := (x5_2 : Int).toNat) ((Kd.R_reads' (Kd.R_after (ok := (fun k_ => some k_ ≠ (v343 : Value).ownBlock)) (by (with_reducible repeat (first | apply Kd.R_alloc | apply Kd.R_drewN | apply Kd.R_drew)); exact Kd.R_mono HO_3.out (fun _ hk => ⟨hk.2, hk.1.2⟩)) hg hat)).2.2) KL48.out))
         have n4_ := aM ((show Kd.C k47 w54 A49 y348.length y348 from by rw [Ny348.out, KA49.out]; exact Kd.C_drop (m := (x5_2 : Int).toNat) (c := co46) ((Kd.R_reads' (Kd.R_after (ok := (fun k_ => some k_ ≠ (v343 : Value).ownBlock)) (by (with_reducible repeat (first | apply Kd.R_alloc | apply Kd.R_drewN | apply Kd.R_drew)); exact Kd.R_mono HO_3.out (fun _ hk => ⟨hk.2, hk.1.2⟩)) hg hat)).2.2) KL49.out ((Kd.R_reads' (Kd.R_after (ok := (fun k_ => some k_ ≠ (v343 : Value).ownBlock)) (by (with_reducible repeat (first | apply Kd.R_alloc | apply Kd.R_drewN | apply Kd.R_drew)); exact Kd.R_mono HO_3.out (fun _ hk => ⟨hk.2, hk.1.2⟩)) hg hat)).2.1)))
         have n5_ := aM (ho)
         clear HO_3
         clear HO344
         clear HB
         clear HR337
         clear HR351
         clear HO333
         have HO_3 := n0_
         have HO344 := n1_
         have HB := n2_
         have HR337 := n3_
         have HR351 := n4_
         have HO340 := n5_
         clear n0_ n1_ n2_ n3_ n4_ n5_
         clear ho hb hg hat
         refine hK.out _ _ ⟨((HB.out.cell (World.block_lt_of_cell? w _ hw341_0)).trans hw341_0), ((HB.out.cell (World.block_lt_of_cell? w _ hw341_1)).trans hw341_1), ((HB.out.cell (World.block_lt_of_cell? w _ hw341_2)).trans hw341_2)⟩ (fun hHeld => ?_)
         clear hK K
         refine norm_ (a' := ?_) ?_ ?_
         rotate_left
         ·show Act.put _ (some 34) _ = _
          simp only [Act.put, xA, xB, xC, i64_w, i32_w]
          rfl
         exact norm_ (by simp only [putAll, Act.put, xA, xB, xC]) (hCont (v332, v339, v343) _ ⟨hHeld, (by (with_reducible repeat (first | apply Kd.R_alloc | apply Kd.R_drewN | apply Kd.R_drew)); exact Kd.R_mono HO340.out (fun _ hk => ⟨hk.2, hk.1⟩)), (by (with_reducible repeat (first | apply Kd.R_alloc | apply Kd.R_drewN | apply Kd.R_drew)); exact Kd.R_mono HO344.out (fun _ hk => ⟨hk.2, hk.1⟩)), (by (with_reducible repeat (first | apply Kd.R_alloc | apply Kd.R_drewN | apply Kd.R_drew)); exact Kd.R_mono HO_3.out (fun _ hk => ⟨hk.2, hk.1⟩)), zb⟩)
       ·skip
        refine Kd.R_lit_step k47 _ 47 ?hg (N := 39) ?hd (xs := ([(⟨(rd_T47 l0 x4_1).f0, (rd_T47 l0 x4_1).f1, (rd_T47 l0 x4_1).f2⟩ : S47)] : List (S47))) (inner := [.int .i64 ((rd_T47 l0 x4_1).f0), .int .i64 ((rd_T47 l0 x4_1).f1), .int .i64 ((rd_T47 l0 x4_1).f2)]) (ok := fun _ => True) (okp := fun _ => True) ?hr ?hp (fun _ hk => hk) trivial (Below.refl _ _) (Nat.le_refl _) (by simp) ?_; (case hd => rfl); (case hg => rfl); (case hr => first | (go_simp; done) | (go_simp; rfl)); (case hp => exact (Reps.c3 (show Kd.M k47 _ _ _ (⟨(rd_T47 l0 x4_1).f0, (rd_T47 l0 x4_1).f1, (rd_T47 l0 x4_1).f2⟩ : S47) [.int .i64 ((rd_T47 l0 x4_1).f0), .int .i64 ((rd_T47 l0 x4_1).f1), .int .i64 ((rd_T47 l0 x4_1).f2)] from (k47_mkM _ _ _ (⟨(rd_T47 l0 x4_1).f0, (rd_T47 l0 x4_1).f1, (rd_T47 l0 x4_1).f2⟩ : S47) )) (Reps.none _ _)))
        intro v343 w50 ho51 hb hg_ hnew_
        clear hg_ hnew_
        (first | rw [← Ny342.out] at ho51 | (simp only [Int.reduceToNat] at ho51; rw [← Ny342.out] at ho51))
        have n0_ := aM (Kd.R_elder' (mR_ HO_3.out) (Kd.R_base ho51) hb)
        have n1_ := aM (Kd.R_lower (Kd.R_new' ho51 (Kd.R_lt (mR_ HO_3.out))) (below_size zb))
        have n2_ := aM (Kd.C_below (mQ_ HR337.out) hb)
        have n3_ := aM (Kd.C_below (mQ_ HR351.out) hb)
        have n4_ := aM (below_step zb hb)
        clear HO_3
        clear HR337
        clear HR351
        clear HB
        have HO_3 := n0_
        have HO344 := n1_
        have HR337 := n2_
        have HR351 := n3_
        have HB := n4_
        clear n0_ n1_ n2_ n3_ n4_
        clear hb ho51
        refine hK.out _ _ ⟨((HB.out.cell (World.block_lt_of_cell? w _ hw341_0)).trans hw341_0), ((HB.out.cell (World.block_lt_of_cell? w _ hw341_1)).trans hw341_1), ((HB.out.cell (World.block_lt_of_cell? w _ hw341_2)).trans hw341_2)⟩ (fun hHeld => ?_)
        clear hK K
        refine norm_ (a' := ?_) ?_ ?_
        rotate_left
        ·show Act.put _ (some 39) _ = _
         simp only [Act.put, xA, xB, xC, i64_w, i32_w]
         rfl
        refine one_ (i := 0) (N := some 30) #[true, true, true, true, false, true, true, true, true, true, false, true, true, true, false, false] rfl rfl (one_of HT_.out (by kernel_rfl)) (by decide) (fun K hK => ?_)
        refine Kd.R_lit_step k47 _ 47 ?hg (N := 30) ?hd (xs := ([] : List (S47))) (inner := []) (ok := fun _ => True) (okp := fun _ => True) ?hr ?hp (fun _ hk => hk) trivial (Below.refl _ _) (Nat.le_refl _) (by simp) ?_; (case hd => rfl); (case hg => rfl); (case hr => first | (go_simp; done) | (go_simp; rfl)); (case hp => exact (Reps.none _ _))
        intro v332 w52 ho53 hb hg_ hnew_
        clear hg_ hnew_
        (first | rw [← Ny331.out] at ho53 | (simp only [Int.reduceToNat] at ho53; rw [← Ny331.out] at ho53))
        have n0_ := aM (Kd.R_elder' (mR_ HO_3.out) (Kd.R_base ho53) hb)
        have n1_ := aM (Kd.R_elder' (mR_ HO344.out) (Kd.R_base ho53) hb)
        have n2_ := aM (Kd.R_lower (Kd.R_new' (Kd.R_new' ho53 (Kd.R_lt (mR_ HO_3.out))) (Kd.R_lt (mR_ HO344.out))) (below_size zb))
        have n3_ := aM (Kd.C_below (mQ_ HR337.out) hb)
        have n4_ := aM (Kd.C_below (mQ_ HR351.out) hb)
        have n5_ := aM (below_step zb hb)
        clear HO_3
        clear HO344
        clear HR337
        clear HR351
        clear HB
        have HO_3 := n0_
        have HO344 := n1_
        have HO333 := n2_
        have HR337 := n3_
        have HR351 := n4_
        have HB := n5_
        clear n0_ n1_ n2_ n3_ n4_ n5_
        clear hb ho53
        refine hK.out _ _ ⟨((HB.out.cell (World.block_lt_of_cell? w _ hw341_0)).trans hw341_0), ((HB.out.cell (World.block_lt_of_cell? w _ hw341_1)).trans hw341_1), ((HB.out.cell (World.block_lt_of_cell? w _ hw341_2)).trans hw341_2)⟩ (fun hHeld => ?_)
        clear hK K
        refine norm_ (a' := ?_) ?_ ?_
        rotate_left
        ·show Act.put _ (some 30) _ = _
         simp only [Act.put, xA, xB, xC, i64_w, i32_w]
         rfl
        refine one_ (i := 4) (N := some 34) #[true, true, true, true, true, true, true, true, true, true, false, true, true, true, false, false] rfl rfl (one_of HT_.out (by kernel_rfl)) (by decide) (fun K hK => ?_)
        refine Kd.R_append_rows_step k47 (w0 := w) w.heap.size (by rfl) (.tmp 30) (.tmp 33) 35 47 (.agg #[(.int .i64 0), (.int .i64 0), (.int .i64 0)]) 24 rfl Try.underlying35 info47 rfl (by decide) (by omega) v332 y331 y334 _ _ _ (fun k_ => some k_ ≠ (.slice Ao46 x3_1.length co46 : Value).ownBlock ∧ some k_ ≠ (v343 : Value).ownBlock) (fun _ => False) rfl rfl ?aO ?aR (fun _ _ h => h) (fun _ h => h.elim) ?aF ?aB ?aS ?aL ?_
        (case aR => repeat (first | exact (mQ_ HR337.out) | (with_reducible refine Kd.C_alloc ?_ _) | (with_reducible refine Kd.C_drewN ?_ _) | (with_reducible refine Kd.C_drew ?_)))
        (case aB => exact zb)
        (case aF => exact (fun k_ hk => ⟨Kd.fresh' (Kd.R_lt (mR_ HO_3.out)) k_ hk, Kd.fresh' (Kd.R_lt (mR_ HO344.out)) k_ hk⟩))
        (case aO => exact (by (with_reducible repeat (first | apply Kd.R_alloc | apply Kd.R_drewN | apply Kd.R_drew)); exact Kd.R_mono HO333.out (fun _ hk => ⟨hk.1.2, hk.2⟩)))
        (case aS => exact (below_size zb))
        (case aL => have := LMc38.out; omega)
        intro v339 w54 ho hb hg hat
        rw [← Ny338.out] at ho
        have n0_ := aM (Kd.R_after (ok := (fun k_ => some k_ ≠ (v343 : Value).ownBlock)) (by (with_reducible repeat (first | apply Kd.R_alloc | apply Kd.R_drewN | apply Kd.R_drew)); exact Kd.R_mono HO_3.out (fun _ hk => ⟨hk.1.2, hk.2⟩)) hg hat)
        have n1_ := aM (Kd.R_after (ok := (fun k_ => some k_ ≠ (.slice Ao46 x3_1.length co46 : Value).ownBlock)) (by (with_reducible repeat (first | apply Kd.R_alloc | apply Kd.R_drewN | apply Kd.R_drew)); exact Kd.R_mono HO344.out (fun _ hk => ⟨hk.1.2, hk.2⟩)) hg hat)
        have n2_ := aM (hb)
        have n3_ := aM ((show Kd.C k47 w54 Ao46 y334.length y334 from by rw [Ny334.out]; exact Kd.C_take (m := (x5_2 : Int).toNat) ((Kd.R_reads' (Kd.R_after (ok := (fun k_ => some k_ ≠ (v343 : Value).ownBlock)) (by (with_reducible repeat (first | apply Kd.R_alloc | apply Kd.R_drewN | apply Kd.R_drew)); exact Kd.R_mono HO_3.out (fun _ hk => ⟨hk.1.2, hk.2⟩)) hg hat)).2.2) KL48.out))
        have n4_ := aM ((show Kd.C k47 w54 A49 y348.length y348 from by rw [Ny348.out, KA49.out]; exact Kd.C_drop (m := (x5_2 : Int).toNat) (c := co46) ((Kd.R_reads' (Kd.R_after (ok := (fun k_ => some k_ ≠ (v343 : Value).ownBlock)) (by (with_reducible repeat (first | apply Kd.R_alloc | apply Kd.R_drewN | apply Kd.R_drew)); exact Kd.R_mono HO_3.out (fun _ hk => ⟨hk.1.2, hk.2⟩)) hg hat)).2.2) KL49.out ((Kd.R_reads' (Kd.R_after (ok := (fun k_ => some k_ ≠ (v343 : Value).ownBlock)) (by (with_reducible repeat (first | apply Kd.R_alloc | apply Kd.R_drewN | apply Kd.R_drew)); exact Kd.R_mono HO_3.out (fun _ hk => ⟨hk.1.2, hk.2⟩)) hg hat)).2.1)))
        have n5_ := aM (ho)
        clear HO_3
        clear HO344
        clear HB
        clear HR337
        clear HR351
        clear HO333
        have HO_3 := n0_
        have HO344 := n1_
        have HB := n2_
        have HR337 := n3_
        have HR351 := n4_
        have HO340 := n5_
        clear n0_ n1_ n2_ n3_ n4_ n5_
        clear ho hb hg hat
        refine hK.out _ _ ⟨((HB.out.cell (World.block_lt_of_cell? w _ hw341_0)).trans hw341_0), ((HB.out.cell (World.block_lt_of_cell? w _ hw341_1)).trans hw341_1), ((HB.out.cell (World.block_lt_of_cell? w _ hw341_2)).trans hw341_2)⟩ (fun hHeld => ?_)
        clear hK K
        refine norm_ (a' := ?_) ?_ ?_
        rotate_left
        ·show Act.put _ (some 34) _ = _
         simp only [Act.put, xA, xB, xC, i64_w, i32_w]
         rfl
        exact norm_ (by simp only [putAll, Act.put, xA, xB, xC]) (hCont (v332, v339, v343) _ ⟨hHeld, (by (with_reducible repeat (first | apply Kd.R_alloc | apply Kd.R_drewN | apply Kd.R_drew)); exact Kd.R_mono HO340.out (fun _ hk => ⟨hk.2, hk.1⟩)), (by (with_reducible repeat (first | apply Kd.R_alloc | apply Kd.R_drewN | apply Kd.R_drew)); exact Kd.R_mono HO344.out (fun _ hk => ⟨hk.2, hk.1⟩)), (by (with_reducible repeat (first | apply Kd.R_alloc | apply Kd.R_drewN | apply Kd.R_drew)); exact Kd.R_mono HO_3.out (fun _ hk => ⟨hk.2, hk.1⟩)), zb⟩)
      rintro ⟨v332, v339, v343⟩ w55 ⟨hS_, h0_, h1_, h2_, h3_⟩
      have n0_ : Aside0 (Kd.R k47 47 w55 w.heap.size (fun k_ => some k_ ≠ (v343 : Value).ownBlock ∧ some k_ ≠ (.slice Ao46 x3_1.length co46 : Value).ownBlock) v339 y338) := ⟨h0_⟩
      have n1_ : Aside0 (Kd.R k47 47 w55 w.heap.size (fun k_ => some k_ ≠ (v339 : Value).ownBlock ∧ some k_ ≠ (.slice Ao46 x3_1.length co46 : Value).ownBlock) v343 y342) := ⟨h1_⟩
      have n2_ : Aside0 (Kd.R k47 47 w55 w.heap.size (fun k_ => some k_ ≠ (v339 : Value).ownBlock ∧ some k_ ≠ (v343 : Value).ownBlock) (.slice Ao46 x3_1.length co46) x3_1) := ⟨h2_⟩
      have n3_ : Aside0 (Below w.heap.size w w55) := ⟨h3_⟩
      clear HO_3
      clear HB
      clear h0_ h1_ h2_ h3_
      have HO340 := n0_
      have HO344 := n1_
      have HO_3 := n2_
      have HB := n3_
      clear n0_ n1_ n2_ n3_
      have hHeld : (spec_l09Sort.d3 w55 ad341 x4_1 l0) := hS_
      (try clear HR337)
      have HR337 := aM (show Kd.C k47 _ Ao46 y334.length y334 from by rw [Ny334.out]; exact Kd.C_take (m := (x5_2 : Int).toNat) ((Kd.R_reads' HO_3.out).2.2) KL48.out)
      (try clear HR351)
      have HR351 := aM (show Kd.C k47 _ A49 y348.length y348 from by rw [Ny348.out, KA49.out]; exact Kd.C_drop (m := (x5_2 : Int).toNat) (c := co46) ((Kd.R_reads' HO_3.out).2.2) KL49.out ((Kd.R_reads' HO_3.out).2.1))
      obtain ⟨Ao57, co57, eo57⟩ := Kd.R_slice HO344.out
      (first | subst eo57 | (injection eo57 with f1_ f2_ f3_; have f4_ := f1_.symm; have f5_ := f3_.symm; clear f1_ f2_ f3_; subst f4_; subst f5_))
      refine norm_ (a' := ?_) ?_ ?_
      rotate_left
      ·simp only [putAll, Act.put, xA, xB, xC]
       rfl
      refine one_ (i := 10) (N := some 40) #[true, true, true, true, true, true, true, true, true, true, true, true, true, true, false, false] rfl rfl (one_of HT_.out (by kernel_rfl)) (by decide) (fun K hK => ?_)
      refine Kd.R_append_rows_step k47 (w0 := w) w.heap.size (by rfl) (.tmp 34) (.tmp 39) 35 47 (.agg #[(.int .i64 0), (.int .i64 0), (.int .i64 0)]) 24 rfl Try.underlying35 info47 rfl (by decide) (by omega) v339 y338 y342 _ _ _ (fun k_ => some k_ ≠ (.slice Ao46 x3_1.length co46 : Value).ownBlock ∧ some k_ ≠ (.slice Ao57 y342.length co57 : Value).ownBlock) (fun _ => False) rfl rfl ?aO ?aR (fun _ _ h => h) (fun _ h => h.elim) ?aF ?aB ?aS ?aL ?_
      (case aR => repeat (first | exact (Kd.R_reads' HO344.out).2.2 | (with_reducible refine Kd.C_alloc ?_ _) | (with_reducible refine Kd.C_drewN ?_ _) | (with_reducible refine Kd.C_drew ?_)))
      (case aB => exact zb)
      (case aF => exact (fun k_ hk => ⟨Kd.fresh' (Kd.R_lt (mR_ HO_3.out)) k_ hk, Kd.fresh' (Kd.R_lt (mR_ HO344.out)) k_ hk⟩))
      (case aO => exact (by (with_reducible repeat (first | apply Kd.R_alloc | apply Kd.R_drewN | apply Kd.R_drew)); exact Kd.R_mono HO340.out (fun _ hk => ⟨hk.2, hk.1⟩)))
      (case aS => exact (below_size zb))
      (case aL => have := LMc41.out; omega)
      intro v346 w56 ho hb hg hat
      rw [← Ny345.out] at ho
      have n0_ := aM (Kd.R_after (ok := (fun k_ => some k_ ≠ (.slice Ao57 y342.length co57 : Value).ownBlock)) (by (with_reducible repeat (first | apply Kd.R_alloc | apply Kd.R_drewN | apply Kd.R_drew)); exact Kd.R_mono HO_3.out (fun _ hk => ⟨hk.2, hk.1⟩)) hg hat)
      have n1_ := aM (Kd.R_after (ok := (fun k_ => some k_ ≠ (.slice Ao46 x3_1.length co46 : Value).ownBlock)) (by (with_reducible repeat (first | apply Kd.R_alloc | apply Kd.R_drewN | apply Kd.R_drew)); exact Kd.R_mono HO344.out (fun _ hk => ⟨hk.2, hk.1⟩)) hg hat)
      have n2_ := aM (hb)
      have n3_ := aM ((show Kd.C k47 w56 Ao46 y334.length y334 from by rw [Ny334.out]; exact Kd.C_take (m := (x5_2 : Int).toNat) ((Kd.R_reads' (Kd.R_after (ok := (fun k_ => some k_ ≠ (.slice Ao57 y342.length co57 : Value).ownBlock)) (by (with_reducible repeat (first | apply Kd.R_alloc | apply Kd.R_drewN | apply Kd.R_drew)); exact Kd.R_mono HO_3.out (fun _ hk => ⟨hk.2, hk.1⟩)) hg hat)).2.2) KL48.out))
      have n4_ := aM ((show Kd.C k47 w56 A49 y348.length y348 from by rw [Ny348.out, KA49.out]; exact Kd.C_drop (m := (x5_2 : Int).toNat) (c := co46) ((Kd.R_reads' (Kd.R_after (ok := (fun k_ => some k_ ≠ (.slice Ao57 y342.length co57 : Value).ownBlock)) (by (with_reducible repeat (first | apply Kd.R_alloc | apply Kd.R_drewN | apply Kd.R_drew)); exact Kd.R_mono HO_3.out (fun _ hk => ⟨hk.2, hk.1⟩)) hg hat)).2.2) KL49.out ((Kd.R_reads' (Kd.R_after (ok := (fun k_ => some k_ ≠ (.slice Ao57 y342.length co57 : Value).ownBlock)) (by (with_reducible repeat (first | apply Kd.R_alloc | apply Kd.R_drewN | apply Kd.R_drew)); exact Kd.R_mono HO_3.out (fun _ hk => ⟨hk.2, hk.1⟩)) hg hat)).2.1)))
      have n5_ := aM (ho)
      clear HO_3
      clear HO344
      clear HB
      clear HR337
      clear HR351
      clear HO340
      have HO_3 := n0_
      have HO344 := n1_
      have HB := n2_
      have HR337 := n3_
      have HR351 := n4_
      have HO347 := n5_
      clear n0_ n1_ n2_ n3_ n4_ n5_
      clear ho hb hg hat
      refine hK.out _ _ ⟨((HB.out.cell (World.block_lt_of_cell? w _ hw341_0)).trans hw341_0), ((HB.out.cell (World.block_lt_of_cell? w _ hw341_1)).trans hw341_1), ((HB.out.cell (World.block_lt_of_cell? w _ hw341_2)).trans hw341_2)⟩ (fun hHeld => ?_)
      clear hK K
      refine norm_ (a' := ?_) ?_ ?_
      rotate_left
      ·show Act.put _ (some 40) _ = _
       simp only [Act.put, xA, xB, xC, i64_w, i32_w]
       rfl
      refine one_ (i := 14) (N := some 44) #[true, true, true, true, true, true, true, true, true, true, true, true, true, true, true, false] rfl rfl (one_of HT_.out (by kernel_rfl)) (by decide) (fun K hK => ?_)
      refine Kd.R_append_rows_step k47 (w0 := w) w.heap.size (by rfl) (.tmp 40) (.tmp 43) 35 47 (.agg #[(.int .i64 0), (.int .i64 0), (.int .i64 0)]) 24 rfl Try.underlying35 info47 rfl (by decide) (by omega) v346 y345 y348 _ _ _ (fun k_ => some k_ ≠ (.slice Ao46 x3_1.length co46 : Value).ownBlock ∧ some k_ ≠ (.slice Ao57 y342.length co57 : Value).ownBlock) (fun _ => False) rfl rfl ?aO ?aR (fun _ _ h => h) (fun _ h => h.elim) ?aF ?aB ?aS ?aL ?_
      (case aR => repeat (first | exact (mQ_ HR351.out) | (with_reducible refine Kd.C_alloc ?_ _) | (with_reducible refine Kd.C_drewN ?_ _) | (with_reducible refine Kd.C_drew ?_)))
      (case aB => exact zb)
      (case aF => exact (fun k_ hk => ⟨Kd.fresh' (Kd.R_lt (mR_ HO_3.out)) k_ hk, Kd.fresh' (Kd.R_lt (mR_ HO344.out)) k_ hk⟩))
      (case aO => exact (mR_ HO347.out))
      (case aS => exact (below_size zb))
      (case aL => have := LMc44.out; omega)
      intro v353 w58 ho hb hg hat
      rw [← Ny352.out] at ho
      have n0_ := aM (Kd.R_after (ok := (fun k_ => some k_ ≠ (.slice Ao57 y342.length co57 : Value).ownBlock)) (mR_ HO_3.out) hg hat)
      have n1_ := aM (Kd.R_after (ok := (fun k_ => some k_ ≠ (.slice Ao46 x3_1.length co46 : Value).ownBlock)) (mR_ HO344.out) hg hat)
      have n2_ := aM (hb)
      have n3_ := aM ((show Kd.C k47 w58 Ao46 y334.length y334 from by rw [Ny334.out]; exact Kd.C_take (m := (x5_2 : Int).toNat) ((Kd.R_reads' (Kd.R_after (ok := (fun k_ => some k_ ≠ (.slice Ao57 y342.length co57 : Value).ownBlock)) (mR_ HO_3.out) hg hat)).2.2) KL48.out))
      have n4_ := aM ((show Kd.C k47 w58 A49 y348.length y348 from by rw [Ny348.out, KA49.out]; exact Kd.C_drop (m := (x5_2 : Int).toNat) (c := co46) ((Kd.R_reads' (Kd.R_after (ok := (fun k_ => some k_ ≠ (.slice Ao57 y342.length co57 : Value).ownBlock)) (mR_ HO_3.out) hg hat)).2.2) KL49.out ((Kd.R_reads' (Kd.R_after (ok := (fun k_ => some k_ ≠ (.slice Ao57 y342.length co57 : Value).ownBlock)) (mR_ HO_3.out) hg hat)).2.1)))
      have n5_ := aM (ho)
      clear HO_3
      clear HO344
      clear HB
      clear HR337
      clear HR351
      clear HO347
      have HO_3 := n0_
      have HO344 := n1_
      have HB := n2_
      have HR337 := n3_
      have HR351 := n4_
      have HO354 := n5_
      clear n0_ n1_ n2_ n3_ n4_ n5_
      clear ho hb hg hat
      refine hK.out _ _ ⟨((HB.out.cell (World.block_lt_of_cell? w _ hw341_0)).trans hw341_0), ((HB.out.cell (World.block_lt_of_cell? w _ hw341_1)).trans hw341_1), ((HB.out.cell (World.block_lt_of_cell? w _ hw341_2)).trans hw341_2)⟩ (fun hHeld => ?_)
      clear hK K
      refine norm_ (a' := ?_) ?_ ?_
      rotate_left
      ·show Act.put _ (some 44) _ = _
       simp only [Act.put, xA, xB, xC, i64_w, i32_w]
       rfl
      refine pure_ (i := 15) (N := some 3) (v := ?_) (a' := ?_) #[true, true, true, true, true, true, true, true, true, true, true, true, true, true, true, true] rfl rfl zz (fun _ _ _ h => h) (Or.inl ⟨by rfl, ?_⟩) ?_ ?_
      rotate_left
      ·intro w'
       go_simp
       with_reducible rfl
      rotate_left
      ·simp only [Act.put, xA, xB, xC, i64_w, i32_w]
       rfl
      refine done_ (done_of HT_.out (by kernel_rfl)) ?_
      try go_wp2
      go_roundg k2
      case measure => have := HK1.out; have := HK2.out; omega
      case rel => exact ⟨(y352), (wrap64 (x4_1 + 1)), zr, H', ⟨by have := HK1.out; have := HK2.out; omega⟩, ⟨by (with_reducible repeat (first | apply Kd.R_alloc | apply Kd.R_drewN | apply Kd.R_drew)); exact Kd.R_mono HO354.out (fun _ hk => trivial)⟩, ⟨zb⟩⟩
     rw [if_pos c5] at H
     have c5b0 : decide (x5_2 < (x3_1.length : Int)) = true := decide_eq_true c5
     clear c5
     by_cases c6 : 0 ≤ x5_2
     rotate_left
     ·rw [if_neg c6] at H
      exact absurd H (by simp)
     rw [if_pos c6] at H
     have c6b0 : decide (0 ≤ x5_2) = true := decide_eq_true c6
     clear c6
     by_cases c7 : 0 ≤ x4_1
     rotate_left
     ·rw [if_neg c7] at H
      exact absurd H (by simp)
     rw [if_pos c7] at H
     have c7b0 : decide (0 ≤ x4_1) = true := decide_eq_true c7
     clear c7
     by_cases c8 : x4_1 < (l0.length : Int)
     rotate_left
     ·rw [if_neg c8] at H
      exact absurd H (by simp)
     rw [if_pos c8] at H
     have c8b0 : decide (x4_1 < (l0.length : Int)) = true := decide_eq_true c8
     clear c8
     replace H := Option.bind_eq_some_iff.mp H
     obtain ⟨t306, A90, H⟩ := H
     replace H : (if t306 = true then (spec_l09Sort.l1 k2 l0 x3_1 x4_1 (wrap64 (x5_2 + 1))) else ((some (([] : List (S47)) : List (S47))).bind fun y307 => (if x5_2 ≤ (x3_1.length : Int) then ((some (x3_1.take (x5_2 : Int).toNat : List (S47))).bind fun y310 => (if y307.length + y310.length < 5864062014805 then ((some (y307 ++ y310 : List (S47))).bind fun y314 => ((some (([(⟨(rd_T47 l0 x4_1).f0, (rd_T47 l0 x4_1).f1, (rd_T47 l0 x4_1).f2⟩ : S47)] : List (S47)) : List (S47))).bind fun y318 => (if y314.length + y318.length < 5864062014805 then ((some (y314 ++ y318 : List (S47))).bind fun y321 => ((some (x3_1.drop (x5_2 : Int).toNat : List (S47))).bind fun y324 => (if y321.length + y324.length < 5864062014805 then (spec_l09Sort.l0 k2 l0 (y321 ++ y324) (wrap64 (x4_1 + 1))) else (none)))) else (none)))) else (none))) else (none)))) = some r := H
     have A9 := aM A90
     clear A90
     by_cases c10 : t306 = true
     ·subst c10
      have H1 : (spec_l09Sort.l1 k2 l0 x3_1 x4_1 (wrap64 (x5_2 + 1))) = some r := by rw [if_pos rfl] at H; exact H
      clear H
      have H := H1
      clear H1
      have H' := aM H
      clear H
      try go_wp2
      have n0_ := aM (Kd.R_drew HO_3.out)
      have n1_ := aM (below_drew1 HB.out)
      clear HO_3
      clear HB
      have HO_3 := n0_
      have HB := n1_
      clear n0_ n1_
      obtain ⟨Ao12, co12, eo12⟩ := Kd.R_slice HO_3.out
      (first | subst eo12 | (injection eo12 with f1_ f2_ f3_; have f4_ := f1_.symm; have f5_ := f3_.symm; clear f1_ f2_ f3_; subst f4_; subst f5_))
      have p304 : 0 ≤ (x5_2 : Int) := of_decide_eq_true za
      have q304 : x5_2 < (x3_1.length : Int) := of_decide_eq_true za
      obtain ⟨ad304, e304, hx304_0, hx304_1, hx304_2⟩ := at_T47 (Kd.R_reads' HO_3.out).2.2 x5_2 p304 q304
      cases e304
      replace p304 := eq_true p304
      replace q304 := eq_true q304
      have p305 : 0 ≤ (x4_1 : Int) := of_decide_eq_true za
      have q305 : x4_1 < (l0.length : Int) := of_decide_eq_true za
      obtain ⟨ad305, e305, hx305_0, hx305_1, hx305_2⟩ := at_T47 HR0.out x4_1 p305 q305
      have hw305_2 := hx305_2
      have hw305_1 := hx305_1
      have hw305_0 := hx305_0
      cases e305
      replace hx305_0 := (HB.out.cell (World.block_lt_of_cell? w _ hx305_0)).trans hx305_0
      replace hx305_1 := (HB.out.cell (World.block_lt_of_cell? w _ hx305_1)).trans hx305_1
      replace hx305_2 := (HB.out.cell (World.block_lt_of_cell? w _ hx305_2)).trans hx305_2
      replace p305 := eq_true p305
      replace q305 := eq_true q305
      refine start_ (n := 15) (S := fun w' => (spec_l09Sort.c3 w' ad304 x5_2 x3_1 ((spec_l09Sort.d3 w' ad305 x4_1 l0)))) (ds := []) #[false, false, false, false, false, false, false, false, false, false, false, false, false, false, false] (by kernel_rfl) rfl rfl ⟨hx304_0, hx304_1, hx304_2, ((HB.out.cell (World.block_lt_of_cell? w _ hw305_0)).trans hw305_0), ((HB.out.cell (World.block_lt_of_cell? w _ hw305_1)).trans hw305_1), ((HB.out.cell (World.block_lt_of_cell? w _ hw305_2)).trans hw305_2)⟩ (fun hHeld => ?_); refine with_tabW spec_l09Sort.tab6 spec_l09Sort.bits6 (fun HT_ HW_ => ?_)
      generalize wr.drew = w11 at HO_3 HB hx304_0 hx304_1 hx304_2 hx305_0 hx305_1 hx305_2 hHeld ⊢
      refine pure_ (i := 0) (N := some 13) (v := ?_) (a' := ?_) #[true, false, false, false, false, false, false, false, false, false, false, false, false, false, false] rfl rfl zz (fun _ _ _ h => h) (Or.inl ⟨by rfl, ?_⟩) ?_ ?_
      rotate_left
      ·intro w'
       go_simp
       with_reducible rfl
      rotate_left
      ·simp only [Act.put, xA, xB, xC, i64_w, i32_w]
       rfl
      refine pure_ (i := 1) (N := some 14) (v := ?_) (a' := ?_) #[true, true, false, false, false, false, false, false, false, false, false, false, false, false, false] rfl rfl zz (fun _ _ _ h => h) (Or.inl ⟨by rfl, ?_⟩) ?_ ?_
      rotate_left
      ·intro w'
       go_simp
       with_reducible rfl
      rotate_left
      ·simp only [Act.put, xA, xB, xC, i64_w, i32_w]
       rfl
      refine pure_ (i := 2) (N := some 15) (v := ?_) (a' := ?_) #[true, true, true, false, false, false, false, false, false, false, false, false, false, false, false] rfl rfl zz (fun _ _ _ h => h) (Or.inl ⟨by rfl, ?_⟩) ?_ ?_
      rotate_left
      ·intro w'
       go_simp
       with_reducible rfl
      rotate_left
      ·simp only [Act.put, xA, xB, xC, i64_w, i32_w]
       rfl
      refine pure_ (i := 3) (N := some 16) (v := ?_) (a' := ?_) #[true, true, true, true, false, false, false, false, false, false, false, false, false, false, false] rfl rfl zz (fun _ _ _ h => h) (Or.inl ⟨by rfl, ?_⟩) ?_ ?_
      rotate_left
      ·intro w'
       go_simp
       with_reducible rfl
      rotate_left
      ·simp only [Act.put, xA, xB, xC, i64_w, i32_w]
       rfl
      refine pure_ (i := 4) (N := some 17) (v := ?_) (a' := ?_) #[true, true, true, true, true, false, false, false, false, false, false, false, false, false, false] rfl rfl zz (fun _ _ _ h => h) (Or.inl ⟨by rfl, ?_⟩) ?_ ?_
      rotate_left
      ·intro w'
       go_simp
       with_reducible rfl
      rotate_left
      ·simp only [Act.put, xA, xB, xC, i64_w, i32_w]
       rfl
      refine pure_ (i := 5) (N := some 18) (v := ?_) (a' := ?_) #[true, true, true, true, true, true, false, false, false, false, false, false, false, false, false] rfl rfl zz (fun _ _ _ h => h) (Or.inl ⟨by rfl, ?_⟩) ?_ ?_
      rotate_left
      ·intro w'
       go_simp
       with_reducible rfl
      rotate_left
      ·simp only [Act.put, xA, xB, xC, i64_w, i32_w]
       rfl
      refine pure_ (i := 6) (N := some 19) (v := ?_) (a' := ?_) #[true, true, true, true, true, true, true, false, false, false, false, false, false, false, false] rfl rfl zz (fun _ _ _ h => h) (Or.inl ⟨by rfl, ?_⟩) ?_ ?_
      rotate_left
      ·intro w'
       go_simp
       with_reducible rfl
      rotate_left
      ·simp only [Act.put, xA, xB, xC, i64_w, i32_w]
       rfl
      refine pure_ (i := 7) (N := some 20) (v := ?_) (a' := ?_) #[true, true, true, true, true, true, true, true, false, false, false, false, false, false, false] rfl rfl zz (fun _ _ _ h => h) (Or.inl ⟨by rfl, ?_⟩) ?_ ?_
      rotate_left
      ·intro w'
       go_simp
       with_reducible rfl
      rotate_left
      ·simp only [Act.put, xA, xB, xC, i64_w, i32_w]
       rfl
      refine pure_ (i := 9) (N := some 22) (v := ?_) (a' := ?_) #[true, true, true, true, true, true, true, true, false, true, false, false, false, false, false] rfl rfl zz (fun _ _ _ h => h) (Or.inl ⟨by rfl, ?_⟩) ?_ ?_
      rotate_left
      ·intro w'
       go_simp
       with_reducible rfl
      rotate_left
      ·simp only [Act.put, xA, xB, xC, i64_w, i32_w]
       rfl
      refine pure_ (i := 10) (N := some 23) (v := ?_) (a' := ?_) #[true, true, true, true, true, true, true, true, false, true, true, false, false, false, false] rfl rfl zz (fun _ _ _ h => h) (Or.inl ⟨by rfl, ?_⟩) ?_ ?_
      rotate_left
      ·intro w'
       go_simp
       with_reducible rfl
      rotate_left
      ·simp only [Act.put, xA, xB, xC, i64_w, i32_w]
       rfl
      refine pure_ (i := 11) (N := some 24) (v := ?_) (a' := ?_) #[true, true, true, true, true, true, true, true, false, true, true, true, false, false, false] rfl rfl zz (fun _ _ _ h => h) (Or.inl ⟨by rfl, ?_⟩) ?_ ?_
      rotate_left
      ·intro w'
       go_simp
       with_reducible rfl
      rotate_left
      ·simp only [Act.put, xA, xB, xC, i64_w, i32_w]
       rfl
      refine take_ (i := 8) (N := some 21) (v := ?_) (a' := ?_) #[true, true, true, true, true, true, true, true, true, true, true, true, false, false, false] rfl rfl (take_ofW HT_.out HW_.out (by kernel_rfl)) (fun _ _ _ h => h) (Or.inl ⟨by rfl, ?_⟩) hHeld ?_ ?_
      rotate_left
      ·rintro w' ⟨s0, s1, s2, s3, s4, s5⟩
       go_simp
       with_reducible rfl
      rotate_left
      ·simp only [Act.put, xA, xB, xC, i64_w, i32_w]
       rfl
      refine take_ (i := 12) (N := some 25) (v := ?_) (a' := ?_) #[true, true, true, true, true, true, true, true, true, true, true, true, true, false, false] rfl rfl (take_ofW HT_.out HW_.out (by kernel_rfl)) (fun _ _ _ h => h) (Or.inl ⟨by rfl, ?_⟩) hHeld ?_ ?_
      rotate_left
      ·rintro w' ⟨s0, s1, s2, s3, s4, s5⟩
       go_simp
       with_reducible rfl
      rotate_left
      ·simp only [Act.put, xA, xB, xC, i64_w, i32_w]
       rfl
      refine one_ (i := 13) (N := some 26) #[true, true, true, true, true, true, true, true, true, true, true, true, true, true, false] rfl rfl (one_of HT_.out (by kernel_rfl)) (by decide) (fun K hK => ?_)
      refine goes_ Try.func72 (by kernel_rfl) rfl #[.agg #[.int .i64 ((rd_T47 x3_1 x5_2).f0), .int .i64 ((rd_T47 x3_1 x5_2).f1), .int .i64 ((rd_T47 x3_1 x5_2).f2)], .agg #[.int .i64 ((rd_T47 l0 x4_1).f0), .int .i64 ((rd_T47 l0 x4_1).f1), .int .i64 ((rd_T47 l0 x4_1).f2)]] (by rfl) rfl rfl zm ?_
      with_reducible refine (spec_l09Less.calls ((rd_T47 x3_1 x5_2).f0) ((rd_T47 x3_1 x5_2).f1) ((rd_T47 x3_1 x5_2).f2) ((rd_T47 l0 x4_1).f0) ((rd_T47 l0 x4_1).f1) ((rd_T47 l0 x4_1).f2) true _ A9.out).mono ?_
      rintro e w13 ⟨rfl, hb⟩
      have HS0_ := (hb.cell (World.block_lt_of_cell? _ _ (hHeld.1))).trans (hHeld.1)
      have HS1_ := (hb.cell (World.block_lt_of_cell? _ _ (hHeld.2.1))).trans (hHeld.2.1)
      have HS2_ := (hb.cell (World.block_lt_of_cell? _ _ (hHeld.2.2.1))).trans (hHeld.2.2.1)
      refine ⟨_, rfl, ?_⟩
      have n0_ := aM (Kd.R_below (mR_ HO_3.out) hb)
      have n1_ := aM (below_step zb hb)
      clear HO_3
      clear HB
      have HO_3 := n0_
      have HB := n1_
      clear n0_ n1_
      (try clear hb)
      (try clear hb2)
      (try clear hk)
      (try clear hi)
      refine hK.out _ _ ⟨HS0_, HS1_, HS2_, ((HB.out.cell (World.block_lt_of_cell? w _ hw305_0)).trans hw305_0), ((HB.out.cell (World.block_lt_of_cell? w _ hw305_1)).trans hw305_1), ((HB.out.cell (World.block_lt_of_cell? w _ hw305_2)).trans hw305_2)⟩ (fun hHeld => ?_)
      clear hK K
      refine norm_ (a' := ?_) ?_ ?_
      rotate_left
      ·show Act.put _ (some 26) _ = _
       simp only [Act.put, xA, xB, xC, i64_w, i32_w]
       rfl
      refine pure_ (i := 14) (N := some 27) (v := ?_) (a' := ?_) #[true, true, true, true, true, true, true, true, true, true, true, true, true, true, true] rfl rfl zz (fun _ _ _ h => h) (Or.inl ⟨by rfl, ?_⟩) ?_ ?_
      rotate_left
      ·intro w'
       go_simp
       with_reducible rfl
      rotate_left
      ·simp only [Act.put, xA, xB, xC, i64_w, i32_w]
       rfl
      refine done_ (done_of HT_.out (by kernel_rfl)) ?_
      try go_wp2
      go_roundg k2
      case measure => have := HK1.out; have := HK2.out; omega
      case rel => exact ⟨(wrap64 (x5_2 + 1)), zr, H', ⟨by have := HK1.out; have := HK2.out; omega⟩, ⟨mR_ HO_3.out⟩, ⟨zb⟩⟩
     replace c10 := Bool.eq_false_iff.mpr c10
     subst c10
     have H1 : ((some (([] : List (S47)) : List (S47))).bind fun y307 => (if x5_2 ≤ (x3_1.length : Int) then ((some (x3_1.take (x5_2 : Int).toNat : List (S47))).bind fun y310 => (if y307.length + y310.length < 5864062014805 then ((some (y307 ++ y310 : List (S47))).bind fun y314 => ((some (([(⟨(rd_T47 l0 x4_1).f0, (rd_T47 l0 x4_1).f1, (rd_T47 l0 x4_1).f2⟩ : S47)] : List (S47)) : List (S47))).bind fun y318 => (if y314.length + y318.length < 5864062014805 then ((some (y314 ++ y318 : List (S47))).bind fun y321 => ((some (x3_1.drop (x5_2 : Int).toNat : List (S47))).bind fun y324 => (if y321.length + y324.length < 5864062014805 then (spec_l09Sort.l0 k2 l0 (y321 ++ y324) (wrap64 (x4_1 + 1))) else (none)))) else (none)))) else (none))) else (none))) = some r := by rw [if_neg (show ¬ (false = true) by decide)] at H; exact H
     clear H
     have H := H1
     clear H1
     obtain ⟨y307, hy307⟩ : ∃ y_ : List (S47), y_ = (([] : List (S47))) := ⟨_, rfl⟩
     replace H : (if x5_2 ≤ (x3_1.length : Int) then ((some (x3_1.take (x5_2 : Int).toNat : List (S47))).bind fun y310 => (if y307.length + y310.length < 5864062014805 then ((some (y307 ++ y310 : List (S47))).bind fun y314 => ((some (([(⟨(rd_T47 l0 x4_1).f0, (rd_T47 l0 x4_1).f1, (rd_T47 l0 x4_1).f2⟩ : S47)] : List (S47)) : List (S47))).bind fun y318 => (if y314.length + y318.length < 5864062014805 then ((some (y314 ++ y318 : List (S47))).bind fun y321 => ((some (x3_1.drop (x5_2 : Int).toNat : List (S47))).bind fun y324 => (if y321.length + y324.length < 5864062014805 then (spec_l09Sort.l0 k2 l0 (y321 ++ y324) (wrap64 (x4_1 + 1))) else (none)))) else (none)))) else (none))) else (none)) = some r := zy H hy307
     have Ny307 := aM hy307
     clear hy307
     have c14b0 := eq_true (of_decide_eq_true za : 0 ≤ x5_2)
     by_cases c15 : x5_2 ≤ (x3_1.length : Int)
     rotate_left
     ·rw [if_neg c15] at H
      exact absurd H (by simp)
     rw [if_pos c15] at H
     have c15b0 := eq_true c15
     have c15b1 : decide (x5_2 ≤ (x3_1.length : Int)) = true := decide_eq_true c15
     clear c15
     obtain ⟨y310, hy310⟩ : ∃ y_ : List (S47), y_ = (x3_1.take (x5_2 : Int).toNat) := ⟨_, rfl⟩
     replace H : (if y307.length + y310.length < 5864062014805 then ((some (y307 ++ y310 : List (S47))).bind fun y314 => ((some (([(⟨(rd_T47 l0 x4_1).f0, (rd_T47 l0 x4_1).f1, (rd_T47 l0 x4_1).f2⟩ : S47)] : List (S47)) : List (S47))).bind fun y318 => (if y314.length + y318.length < 5864062014805 then ((some (y314 ++ y318 : List (S47))).bind fun y321 => ((some (x3_1.drop (x5_2 : Int).toNat : List (S47))).bind fun y324 => (if y321.length + y324.length < 5864062014805 then (spec_l09Sort.l0 k2 l0 (y321 ++ y324) (wrap64 (x4_1 + 1))) else (none)))) else (none)))) else (none)) = some r := zy H hy310
     have Ny310 := aM hy310
     clear hy310
     by_cases c16 : y307.length + y310.length < 5864062014805
     rotate_left
     ·rw [if_neg c16] at H
      exact absurd H (by simp)
     rw [if_pos c16] at H
     have LMc16 := aM c16
     clear c16
     obtain ⟨y314, hy314⟩ : ∃ y_ : List (S47), y_ = (y307 ++ y310) := ⟨_, rfl⟩
     replace H : ((some (([(⟨(rd_T47 l0 x4_1).f0, (rd_T47 l0 x4_1).f1, (rd_T47 l0 x4_1).f2⟩ : S47)] : List (S47)) : List (S47))).bind fun y318 => (if y314.length + y318.length < 5864062014805 then ((some (y314 ++ y318 : List (S47))).bind fun y321 => ((some (x3_1.drop (x5_2 : Int).toNat : List (S47))).bind fun y324 => (if y321.length + y324.length < 5864062014805 then (spec_l09Sort.l0 k2 l0 (y321 ++ y324) (wrap64 (x4_1 + 1))) else (none)))) else (none))) = some r := zy H hy314
     have Ny314 := aM hy314
     clear hy314
     obtain ⟨y318, hy318⟩ : ∃ y_ : List (S47), y_ = (([(⟨(rd_T47 l0 x4_1).f0, (rd_T47 l0 x4_1).f1, (rd_T47 l0 x4_1).f2⟩ : S47)] : List (S47))) := ⟨_, rfl⟩
     replace H : (if y314.length + y318.length < 5864062014805 then ((some (y314 ++ y318 : List (S47))).bind fun y321 => ((some (x3_1.drop (x5_2 : Int).toNat : List (S47))).bind fun y324 => (if y321.length + y324.length < 5864062014805 then (spec_l09Sort.l0 k2 l0 (y321 ++ y324) (wrap64 (x4_1 + 1))) else (none)))) else (none)) = some r := zy H hy318
     have Ny318 := aM hy318
     clear hy318
     by_cases c17 : y314.length + y318.length < 5864062014805
     rotate_left
     ·rw [if_neg c17] at H
      exact absurd H (by simp)
     rw [if_pos c17] at H
     have LMc17 := aM c17
     clear c17
     obtain ⟨y321, hy321⟩ : ∃ y_ : List (S47), y_ = (y314 ++ y318) := ⟨_, rfl⟩
     replace H : ((some (x3_1.drop (x5_2 : Int).toNat : List (S47))).bind fun y324 => (if y321.length + y324.length < 5864062014805 then (spec_l09Sort.l0 k2 l0 (y321 ++ y324) (wrap64 (x4_1 + 1))) else (none))) = some r := zy H hy321
     have Ny321 := aM hy321
     clear hy321
     have c18b0 := eq_true (of_decide_eq_true za : 0 ≤ x5_2)
     have c19b0 := eq_true (of_decide_eq_true za : x5_2 ≤ (x3_1.length : Int))
     obtain ⟨y324, hy324⟩ : ∃ y_ : List (S47), y_ = (x3_1.drop (x5_2 : Int).toNat) := ⟨_, rfl⟩
     replace H : (if y321.length + y324.length < 5864062014805 then (spec_l09Sort.l0 k2 l0 (y321 ++ y324) (wrap64 (x4_1 + 1))) else (none)) = some r := zy H hy324
     have Ny324 := aM hy324
     clear hy324
     by_cases c20 : y321.length + y324.length < 5864062014805
     rotate_left
     ·rw [if_neg c20] at H
      exact absurd H (by simp)
     rw [if_pos c20] at H
     have LMc20 := aM c20
     clear c20
     obtain ⟨y328, hy328⟩ : ∃ y_ : List (S47), y_ = (y321 ++ y324) := ⟨_, rfl⟩
     replace H : (spec_l09Sort.l0 k2 l0 y328 (wrap64 (x4_1 + 1))) = some r := zy H hy328
     have Ny328 := aM hy328
     clear hy328
     have H' := aM H
     clear H
     try go_wp2
     have n0_ := aM (Kd.R_drew HO_3.out)
     have n1_ := aM (below_drew1 HB.out)
     clear HO_3
     clear HB
     have HO_3 := n0_
     have HB := n1_
     clear n0_ n1_
     obtain ⟨Ao22, co22, eo22⟩ := Kd.R_slice HO_3.out
     (first | subst eo22 | (injection eo22 with f1_ f2_ f3_; have f4_ := f1_.symm; have f5_ := f3_.symm; clear f1_ f2_ f3_; subst f4_; subst f5_))
     have p304 : 0 ≤ (x5_2 : Int) := of_decide_eq_true za
     have q304 : x5_2 < (x3_1.length : Int) := of_decide_eq_true za
     obtain ⟨ad304, e304, hx304_0, hx304_1, hx304_2⟩ := at_T47 (Kd.R_reads' HO_3.out).2.2 x5_2 p304 q304
     cases e304
     replace p304 := eq_true p304
     replace q304 := eq_true q304
     have p305 : 0 ≤ (x4_1 : Int) := of_decide_eq_true za
     have q305 : x4_1 < (l0.length : Int) := of_decide_eq_true za
     obtain ⟨ad305, e305, hx305_0, hx305_1, hx305_2⟩ := at_T47 HR0.out x4_1 p305 q305
     have hw305_2 := hx305_2
     have hw305_1 := hx305_1
     have hw305_0 := hx305_0
     cases e305
     replace hx305_0 := (HB.out.cell (World.block_lt_of_cell? w _ hx305_0)).trans hx305_0
     replace hx305_1 := (HB.out.cell (World.block_lt_of_cell? w _ hx305_1)).trans hx305_1
     replace hx305_2 := (HB.out.cell (World.block_lt_of_cell? w _ hx305_2)).trans hx305_2
     replace p305 := eq_true p305
     replace q305 := eq_true q305
     refine start_ (n := 15) (S := fun w' => (spec_l09Sort.c3 w' ad304 x5_2 x3_1 ((spec_l09Sort.d3 w' ad305 x4_1 l0)))) (ds := []) #[false, false, false, false, false, false, false, false, false, false, false, false, false, false, false] (by kernel_rfl) rfl rfl ⟨hx304_0, hx304_1, hx304_2, ((HB.out.cell (World.block_lt_of_cell? w _ hw305_0)).trans hw305_0), ((HB.out.cell (World.block_lt_of_cell? w _ hw305_1)).trans hw305_1), ((HB.out.cell (World.block_lt_of_cell? w _ hw305_2)).trans hw305_2)⟩ (fun hHeld => ?_); refine with_tabW spec_l09Sort.tab6 spec_l09Sort.bits6 (fun HT_ HW_ => ?_)
     generalize wr.drew = w21 at HO_3 HB hx304_0 hx304_1 hx304_2 hx305_0 hx305_1 hx305_2 hHeld ⊢
     refine pure_ (i := 0) (N := some 13) (v := ?_) (a' := ?_) #[true, false, false, false, false, false, false, false, false, false, false, false, false, false, false] rfl rfl zz (fun _ _ _ h => h) (Or.inl ⟨by rfl, ?_⟩) ?_ ?_
     rotate_left
     ·intro w'
      go_simp
      with_reducible rfl
     rotate_left
     ·simp only [Act.put, xA, xB, xC, i64_w, i32_w]
      rfl
     refine pure_ (i := 1) (N := some 14) (v := ?_) (a' := ?_) #[true, true, false, false, false, false, false, false, false, false, false, false, false, false, false] rfl rfl zz (fun _ _ _ h => h) (Or.inl ⟨by rfl, ?_⟩) ?_ ?_
     rotate_left
     ·intro w'
      go_simp
      with_reducible rfl
     rotate_left
     ·simp only [Act.put, xA, xB, xC, i64_w, i32_w]
      rfl
     refine pure_ (i := 2) (N := some 15) (v := ?_) (a' := ?_) #[true, true, true, false, false, false, false, false, false, false, false, false, false, false, false] rfl rfl zz (fun _ _ _ h => h) (Or.inl ⟨by rfl, ?_⟩) ?_ ?_
     rotate_left
     ·intro w'
      go_simp
      with_reducible rfl
     rotate_left
     ·simp only [Act.put, xA, xB, xC, i64_w, i32_w]
      rfl
     refine pure_ (i := 3) (N := some 16) (v := ?_) (a' := ?_) #[true, true, true, true, false, false, false, false, false, false, false, false, false, false, false] rfl rfl zz (fun _ _ _ h => h) (Or.inl ⟨by rfl, ?_⟩) ?_ ?_
     rotate_left
     ·intro w'
      go_simp
      with_reducible rfl
     rotate_left
     ·simp only [Act.put, xA, xB, xC, i64_w, i32_w]
      rfl
     refine pure_ (i := 4) (N := some 17) (v := ?_) (a' := ?_) #[true, true, true, true, true, false, false, false, false, false, false, false, false, false, false] rfl rfl zz (fun _ _ _ h => h) (Or.inl ⟨by rfl, ?_⟩) ?_ ?_
     rotate_left
     ·intro w'
      go_simp
      with_reducible rfl
     rotate_left
     ·simp only [Act.put, xA, xB, xC, i64_w, i32_w]
      rfl
     refine pure_ (i := 5) (N := some 18) (v := ?_) (a' := ?_) #[true, true, true, true, true, true, false, false, false, false, false, false, false, false, false] rfl rfl zz (fun _ _ _ h => h) (Or.inl ⟨by rfl, ?_⟩) ?_ ?_
     rotate_left
     ·intro w'
      go_simp
      with_reducible rfl
     rotate_left
     ·simp only [Act.put, xA, xB, xC, i64_w, i32_w]
      rfl
     refine pure_ (i := 6) (N := some 19) (v := ?_) (a' := ?_) #[true, true, true, true, true, true, true, false, false, false, false, false, false, false, false] rfl rfl zz (fun _ _ _ h => h) (Or.inl ⟨by rfl, ?_⟩) ?_ ?_
     rotate_left
     ·intro w'
      go_simp
      with_reducible rfl
     rotate_left
     ·simp only [Act.put, xA, xB, xC, i64_w, i32_w]
      rfl
     refine pure_ (i := 7) (N := some 20) (v := ?_) (a' := ?_) #[true, true, true, true, true, true, true, true, false, false, false, false, false, false, false] rfl rfl zz (fun _ _ _ h => h) (Or.inl ⟨by rfl, ?_⟩) ?_ ?_
     rotate_left
     ·intro w'
      go_simp
      with_reducible rfl
     rotate_left
     ·simp only [Act.put, xA, xB, xC, i64_w, i32_w]
      rfl
     refine pure_ (i := 9) (N := some 22) (v := ?_) (a' := ?_) #[true, true, true, true, true, true, true, true, false, true, false, false, false, false, false] rfl rfl zz (fun _ _ _ h => h) (Or.inl ⟨by rfl, ?_⟩) ?_ ?_
     rotate_left
     ·intro w'
      go_simp
      with_reducible rfl
     rotate_left
     ·simp only [Act.put, xA, xB, xC, i64_w, i32_w]
      rfl
     refine pure_ (i := 10) (N := some 23) (v := ?_) (a' := ?_) #[true, true, true, true, true, true, true, true, false, true, true, false, false, false, false] rfl rfl zz (fun _ _ _ h => h) (Or.inl ⟨by rfl, ?_⟩) ?_ ?_
     rotate_left
     ·intro w'
      go_simp
      with_reducible rfl
     rotate_left
     ·simp only [Act.put, xA, xB, xC, i64_w, i32_w]
      rfl
     refine pure_ (i := 11) (N := some 24) (v := ?_) (a' := ?_) #[true, true, true, true, true, true, true, true, false, true, true, true, false, false, false] rfl rfl zz (fun _ _ _ h => h) (Or.inl ⟨by rfl, ?_⟩) ?_ ?_
     rotate_left
     ·intro w'
      go_simp
      with_reducible rfl
     rotate_left
     ·simp only [Act.put, xA, xB, xC, i64_w, i32_w]
      rfl
     refine take_ (i := 8) (N := some 21) (v := ?_) (a' := ?_) #[true, true, true, true, true, true, true, true, true, true, true, true, false, false, false] rfl rfl (take_ofW HT_.out HW_.out (by kernel_rfl)) (fun _ _ _ h => h) (Or.inl ⟨by rfl, ?_⟩) hHeld ?_ ?_
     rotate_left
     ·rintro w' ⟨s0, s1, s2, s3, s4, s5⟩
      go_simp
      with_reducible rfl
     rotate_left
     ·simp only [Act.put, xA, xB, xC, i64_w, i32_w]
      rfl
     refine take_ (i := 12) (N := some 25) (v := ?_) (a' := ?_) #[true, true, true, true, true, true, true, true, true, true, true, true, true, false, false] rfl rfl (take_ofW HT_.out HW_.out (by kernel_rfl)) (fun _ _ _ h => h) (Or.inl ⟨by rfl, ?_⟩) hHeld ?_ ?_
     rotate_left
     ·rintro w' ⟨s0, s1, s2, s3, s4, s5⟩
      go_simp
      with_reducible rfl
     rotate_left
     ·simp only [Act.put, xA, xB, xC, i64_w, i32_w]
      rfl
     refine one_ (i := 13) (N := some 26) #[true, true, true, true, true, true, true, true, true, true, true, true, true, true, false] rfl rfl (one_of HT_.out (by kernel_rfl)) (by decide) (fun K hK => ?_)
     refine goes_ Try.func72 (by kernel_rfl) rfl #[.agg #[.int .i64 ((rd_T47 x3_1 x5_2).f0), .int .i64 ((rd_T47 x3_1 x5_2).f1), .int .i64 ((rd_T47 x3_1 x5_2).f2)], .agg #[.int .i64 ((rd_T47 l0 x4_1).f0), .int .i64 ((rd_T47 l0 x4_1).f1), .int .i64 ((rd_T47 l0 x4_1).f2)]] (by rfl) rfl rfl zm ?_
     with_reducible refine (spec_l09Less.calls ((rd_T47 x3_1 x5_2).f0) ((rd_T47 x3_1 x5_2).f1) ((rd_T47 x3_1 x5_2).f2) ((rd_T47 l0 x4_1).f0) ((rd_T47 l0 x4_1).f1) ((rd_T47 l0 x4_1).f2) false _ A9.out).mono ?_
     rintro e w23 ⟨rfl, hb⟩
     have HS0_ := (hb.cell (World.block_lt_of_cell? _ _ (hHeld.1))).trans (hHeld.1)
     have HS1_ := (hb.cell (World.block_lt_of_cell? _ _ (hHeld.2.1))).trans (hHeld.2.1)
     have HS2_ := (hb.cell (World.block_lt_of_cell? _ _ (hHeld.2.2.1))).trans (hHeld.2.2.1)
     refine ⟨_, rfl, ?_⟩
     have n0_ := aM (Kd.R_below (mR_ HO_3.out) hb)
     have n1_ := aM (below_step zb hb)
     clear HO_3
     clear HB
     have HO_3 := n0_
     have HB := n1_
     clear n0_ n1_
     (try clear hb)
     (try clear hb2)
     (try clear hk)
     (try clear hi)
     refine hK.out _ _ ⟨HS0_, HS1_, HS2_, ((HB.out.cell (World.block_lt_of_cell? w _ hw305_0)).trans hw305_0), ((HB.out.cell (World.block_lt_of_cell? w _ hw305_1)).trans hw305_1), ((HB.out.cell (World.block_lt_of_cell? w _ hw305_2)).trans hw305_2)⟩ (fun hHeld => ?_)
     clear hK K
     refine norm_ (a' := ?_) ?_ ?_
     rotate_left
     ·show Act.put _ (some 26) _ = _
      simp only [Act.put, xA, xB, xC, i64_w, i32_w]
      rfl
     refine pure_ (i := 14) (N := some 27) (v := ?_) (a' := ?_) #[true, true, true, true, true, true, true, true, true, true, true, true, true, true, true] rfl rfl zz (fun _ _ _ h => h) (Or.inl ⟨by rfl, ?_⟩) ?_ ?_
     rotate_left
     ·intro w'
      go_simp
      with_reducible rfl
     rotate_left
     ·simp only [Act.put, xA, xB, xC, i64_w, i32_w]
      rfl
     refine done_ (done_of HT_.out (by kernel_rfl)) ?_
     try go_wp2
     have n0_ := aM (Kd.R_drew HO_3.out)
     have n1_ := aM (below_drew1 HB.out)
     clear HO_3
     clear HB
     have HO_3 := n0_
     have HB := n1_
     clear n0_ n1_
     have q25 : (x5_2 : Int) ≤ ((x3_1.length : Int) : Int) := of_decide_eq_true za
     obtain ⟨i025, hi025, _, hsz25, _⟩ := info_parts info47
     have hroom25 : x3_1.length ≤ co22 := (Kd.R_reads' HO_3.out).2.1
     have hC25 : Kd.C k47 _ (some ad304) x3_1.length x3_1 := (Kd.R_reads' HO_3.out).2.2
     have hcut25 := cut_to (P := Try.prog) 35 47 .i64 Try.underlying35 hi025 (some ad304) x3_1.length co22 x5_2 (of_decide_eq_true za) q25 hroom25
     have hr25 := Kd.C_take (m := (x5_2 : Int).toNat) hC25 (by omega)
     have hy25 : y310.length = (x5_2 : Int).toNat := (by rw [Ny310.out, List.length_take]; omega)
     rw [← Ny310.out] at hr25
     rw [← hy25] at hcut25
     have HR313 := aM hr25
     have HC313 := aM (show y310.length ≤ co22 from by omega)
     clear hr25 hC25 hroom25 hi025 hsz25
     have KY25 := aM hy25
     clear hy25
     have KL25 := aM (show (x5_2 : Int).toNat ≤ x3_1.length from by omega)
     replace q25 := eq_true q25
     have p317 : 0 ≤ (x4_1 : Int) := of_decide_eq_true za
     have q317 : x4_1 < (l0.length : Int) := of_decide_eq_true za
     obtain ⟨ad317, e317, hx317_0, hx317_1, hx317_2⟩ := at_T47 HR0.out x4_1 p317 q317
     have hw317_2 := hx317_2
     have hw317_1 := hx317_1
     have hw317_0 := hx317_0
     obtain rfl : ad305 = ad317 := (by injection e317)
     replace hx317_0 := (HB.out.cell (World.block_lt_of_cell? w _ hx317_0)).trans hx317_0
     replace hx317_1 := (HB.out.cell (World.block_lt_of_cell? w _ hx317_1)).trans hx317_1
     replace hx317_2 := (HB.out.cell (World.block_lt_of_cell? w _ hx317_2)).trans hx317_2
     replace p317 := eq_true p317
     replace q317 := eq_true q317
     have q26 : (x5_2 : Int) ≤ ((x3_1.length : Int) : Int) := of_decide_eq_true za
     obtain ⟨i026, hi026, _, hsz26, _⟩ := info_parts info47
     have hroom26 : x3_1.length ≤ co22 := (Kd.R_reads' HO_3.out).2.1
     have hC26 : Kd.C k47 _ (some ad304) x3_1.length x3_1 := (Kd.R_reads' HO_3.out).2.2
     have q026 : (0 : Int) ≤ (x5_2 : Int) := of_decide_eq_true za
     have hcut26 := cut_from (P := Try.prog) 35 47 .i64 Try.underlying35 hi026 3 hsz26 (some ad304) x3_1.length co22 x5_2 q026 q26
     have hr26 := Kd.C_drop (m := (x5_2 : Int).toNat) (c := co22) hC26 (by omega) hroom26
     obtain ⟨A26, hA26⟩ : ∃ A1, A1 = (if co22 = (x5_2 : Int).toNat then (some ad304) else ((some ad304) : Option Addr).map (·.add ((x5_2 : Int).toNat * 3))) := ⟨_, rfl⟩
     obtain ⟨c26, hc26⟩ : ∃ c1, c1 = co22 - (x5_2 : Int).toNat := ⟨_, rfl⟩
     have hy26 : y324.length = x3_1.length - (x5_2 : Int).toNat := (by rw [Ny324.out, List.length_drop] <;> omega)
     rw [show (x3_1).drop (x5_2 : Int).toNat = y324 from Ny324.out.symm] at hr26
     replace hr26 : Kd.C k47 _ A26 y324.length y324 := (by rw [hA26]; exact hr26)
     rw [← hy26, ← hA26, ← hc26] at hcut26
     have HR327 := aM hr26
     have HC327 := aM (show y324.length ≤ c26 from by rw [hy26, hc26]; exact Nat.sub_le_sub_right hroom26 _)
     clear hr26 hC26 hroom26 hi026 hsz26 hc26
     have KY26 := aM hy26
     have KA26 := aM hA26
     clear hy26 hA26
     have KL26 := aM (show (x5_2 : Int).toNat ≤ x3_1.length from by omega)
     replace q26 := eq_true q26
     refine start_ (n := 16) (S := fun w' => (spec_l09Sort.d3 w' ad305 x4_1 l0)) (ds := []) #[false, false, false, false, false, false, false, false, false, false, false, false, false, false, false, false] (by kernel_rfl) rfl rfl ⟨((HB.out.cell (World.block_lt_of_cell? w _ hw317_0)).trans hw317_0), ((HB.out.cell (World.block_lt_of_cell? w _ hw317_1)).trans hw317_1), ((HB.out.cell (World.block_lt_of_cell? w _ hw317_2)).trans hw317_2)⟩ (fun hHeld => ?_); refine with_tabW spec_l09Sort.tab8 spec_l09Sort.bits8 (fun HT_ HW_ => ?_)
     generalize w23.drew = w24 at HO_3 HB HR313 HR327 hx317_0 hx317_1 hx317_2 hHeld ⊢
     refine pure_ (i := 1) (N := some 31) (v := ?_) (a' := ?_) #[false, true, false, false, false, false, false, false, false, false, false, false, false, false, false, false] rfl rfl zz (fun _ _ _ h => h) (Or.inl ⟨by rfl, ?_⟩) ?_ ?_
     rotate_left
     ·intro w'
      go_simp
      with_reducible rfl
     rotate_left
     ·simp only [Act.put, xA, xB, xC, i64_w, i32_w]
      rfl
     refine pure_ (i := 2) (N := some 32) (v := ?_) (a' := ?_) #[false, true, true, false, false, false, false, false, false, false, false, false, false, false, false, false] rfl rfl zz (fun _ _ _ h => h) (Or.inl ⟨by rfl, ?_⟩) ?_ ?_
     rotate_left
     ·intro w'
      go_simp
      with_reducible rfl
     rotate_left
     ·simp only [Act.put, xA, xB, xC, i64_w, i32_w]
      rfl
     refine pure_ (i := 3) (N := some 33) (v := ?_) (a' := ?_) #[false, true, true, true, false, false, false, false, false, false, false, false, false, false, false, false] rfl rfl zz (fun _ _ _ h => h) (Or.inl ⟨by rfl, ?_⟩) ?_ ?_
     rotate_left
     ·intro w'
      go_simp
      with_reducible rfl
     rotate_left
     ·simp only [Act.put, xA, xB, xC, i64_w, i32_w]
      rfl
     refine pure_ (i := 5) (N := some 35) (v := ?_) (a' := ?_) #[false, true, true, true, false, true, false, false, false, false, false, false, false, false, false, false] rfl rfl zz (fun _ _ _ h => h) (Or.inl ⟨by rfl, ?_⟩) ?_ ?_
     rotate_left
     ·intro w'
      go_simp
      with_reducible rfl
     rotate_left
     ·simp only [Act.put, xA, xB, xC, i64_w, i32_w]
      rfl
     refine pure_ (i := 6) (N := some 36) (v := ?_) (a' := ?_) #[false, true, true, true, false, true, true, false, false, false, false, false, false, false, false, false] rfl rfl zz (fun _ _ _ h => h) (Or.inl ⟨by rfl, ?_⟩) ?_ ?_
     rotate_left
     ·intro w'
      go_simp
      with_reducible rfl
     rotate_left
     ·simp only [Act.put, xA, xB, xC, i64_w, i32_w]
      rfl
     refine pure_ (i := 7) (N := some 37) (v := ?_) (a' := ?_) #[false, true, true, true, false, true, true, true, false, false, false, false, false, false, false, false] rfl rfl zz (fun _ _ _ h => h) (Or.inl ⟨by rfl, ?_⟩) ?_ ?_
     rotate_left
     ·intro w'
      go_simp
      with_reducible rfl
     rotate_left
     ·simp only [Act.put, xA, xB, xC, i64_w, i32_w]
      rfl
     refine pure_ (i := 11) (N := some 41) (v := ?_) (a' := ?_) #[false, true, true, true, false, true, true, true, false, false, false, true, false, false, false, false] rfl rfl zz (fun _ _ _ h => h) (Or.inl ⟨by rfl, ?_⟩) ?_ ?_
     rotate_left
     ·intro w'
      go_simp
      with_reducible rfl
     rotate_left
     ·simp only [Act.put, xA, xB, xC, i64_w, i32_w]
      rfl
     refine pure_ (i := 12) (N := some 42) (v := ?_) (a' := ?_) #[false, true, true, true, false, true, true, true, false, false, false, true, true, false, false, false] rfl rfl zz (fun _ _ _ h => h) (Or.inl ⟨by rfl, ?_⟩) ?_ ?_
     rotate_left
     ·intro w'
      go_simp
      with_reducible rfl
     rotate_left
     ·simp only [Act.put, xA, xB, xC, i64_w, i32_w]
      rfl
     refine pure_ (i := 13) (N := some 43) (v := ?_) (a' := ?_) #[false, true, true, true, false, true, true, true, false, false, false, true, true, true, false, false] rfl rfl zz (fun _ _ _ h => h) (Or.inl ⟨by rfl, ?_⟩) ?_ ?_
     rotate_left
     ·intro w'
      go_simp
      with_reducible rfl
     rotate_left
     ·simp only [Act.put, xA, xB, xC, i64_w, i32_w]
      rfl
     refine take_ (i := 8) (N := some 38) (v := ?_) (a' := ?_) #[false, true, true, true, false, true, true, true, true, false, false, true, true, true, false, false] rfl rfl (take_ofW HT_.out HW_.out (by kernel_rfl)) (fun _ _ _ h => h) (Or.inl ⟨by rfl, ?_⟩) hHeld ?_ ?_
     rotate_left
     ·rintro w' ⟨s0, s1, s2⟩
      go_simp
      with_reducible rfl
     rotate_left
     ·simp only [Act.put, xA, xB, xC, i64_w, i32_w]
      rfl
     refine join_ (σ := Value × Value × Value) 3 #[true, true, true, true, true, true, true, true, true, true, false, true, true, true, false, false] (fun s_ => [(30, s_.1), (34, s_.2.1), (39, s_.2.2)]) (fun s_ w' => ((spec_l09Sort.d3 w' ad305 x4_1 l0)) ∧ (Kd.R k47 47 w' w.heap.size (fun k_ => some k_ ≠ (s_.2.2 : Value).ownBlock ∧ some k_ ≠ (.slice (some ad304) x3_1.length co22 : Value).ownBlock) s_.2.1 y314) ∧ (Kd.R k47 47 w' w.heap.size (fun k_ => some k_ ≠ (s_.2.1 : Value).ownBlock ∧ some k_ ≠ (.slice (some ad304) x3_1.length co22 : Value).ownBlock) s_.2.2 y318) ∧ (Kd.R k47 47 w' w.heap.size (fun k_ => some k_ ≠ (s_.2.1 : Value).ownBlock ∧ some k_ ≠ (s_.2.2 : Value).ownBlock) (.slice (some ad304) x3_1.length co22) x3_1) ∧ (Below w.heap.size w w')) ?_ ?_
     rotate_left
     ·intro hCont
      refine two_ (i := 0) (j := 9) (Ni := some 30) (Nj := some 39) #[true, true, true, true, false, true, true, true, true, false, false, true, true, true, false, false] #[false, true, true, true, false, true, true, true, true, true, false, true, true, true, false, false] rfl rfl rfl rfl (two_of HT_.out (by kernel_rfl)) (by decide) (by decide) (fun K hK => ?_) (fun K hK => ?_)
      ·skip
       refine Kd.R_lit_step k47 _ 47 ?hg (N := 30) ?hd (xs := ([] : List (S47))) (inner := []) (ok := fun _ => True) (okp := fun _ => True) ?hr ?hp (fun _ hk => hk) trivial (Below.refl _ _) (Nat.le_refl _) (by simp) ?_; (case hd => rfl); (case hg => rfl); (case hr => first | (go_simp; done) | (go_simp; rfl)); (case hp => exact (Reps.none _ _))
       intro v308 w27 ho28 hb hg_ hnew_
       clear hg_ hnew_
       (first | rw [← Ny307.out] at ho28 | (simp only [Int.reduceToNat] at ho28; rw [← Ny307.out] at ho28))
       have n0_ := aM (Kd.R_elder' (mR_ HO_3.out) (Kd.R_base ho28) hb)
       have n1_ := aM (Kd.R_lower (Kd.R_new' ho28 (Kd.R_lt (mR_ HO_3.out))) (below_size zb))
       have n2_ := aM (Kd.C_below (mQ_ HR313.out) hb)
       have n3_ := aM (Kd.C_below (mQ_ HR327.out) hb)
       have n4_ := aM (below_step zb hb)
       clear HO_3
       clear HR313
       clear HR327
       clear HB
       have HO_3 := n0_
       have HO309 := n1_
       have HR313 := n2_
       have HR327 := n3_
       have HB := n4_
       clear n0_ n1_ n2_ n3_ n4_
       clear hb ho28
       refine hK.out _ _ ⟨((HB.out.cell (World.block_lt_of_cell? w _ hw317_0)).trans hw317_0), ((HB.out.cell (World.block_lt_of_cell? w _ hw317_1)).trans hw317_1), ((HB.out.cell (World.block_lt_of_cell? w _ hw317_2)).trans hw317_2)⟩ (fun hHeld => ?_)
       clear hK K
       refine norm_ (a' := ?_) ?_ ?_
       rotate_left
       ·show Act.put _ (some 30) _ = _
        simp only [Act.put, xA, xB, xC, i64_w, i32_w]
        rfl
       refine two_ (i := 4) (j := 9) (Ni := some 34) (Nj := some 39) #[true, true, true, true, true, true, true, true, true, false, false, true, true, true, false, false] #[true, true, true, true, false, true, true, true, true, true, false, true, true, true, false, false] rfl rfl rfl rfl (two_of HT_.out (by kernel_rfl)) (by decide) (by decide) (fun K hK => ?_) (fun K hK => ?_)
       ·skip
        refine Kd.R_append_rows_step k47 (w0 := w) w.heap.size (by rfl) (.tmp 30) (.tmp 33) 35 47 (.agg #[(.int .i64 0), (.int .i64 0), (.int .i64 0)]) 24 rfl Try.underlying35 info47 rfl (by decide) (by omega) v308 y307 y310 _ _ _ (fun k_ => some k_ ≠ (.slice (some ad304) x3_1.length co22 : Value).ownBlock) (fun _ => False) rfl rfl ?aO ?aR (fun _ _ h => h) (fun _ h => h.elim) ?aF ?aB ?aS ?aL ?_
        (case aR => repeat (first | exact (mQ_ HR313.out) | (with_reducible refine Kd.C_alloc ?_ _) | (with_reducible refine Kd.C_drewN ?_ _) | (with_reducible refine Kd.C_drew ?_)))
        (case aB => exact zb)
        (case aF => exact (fun k_ hk => Kd.fresh' (Kd.R_lt (mR_ HO_3.out)) k_ hk))
        (case aO => exact (by (with_reducible repeat (first | apply Kd.R_alloc | apply Kd.R_drewN | apply Kd.R_drew)); exact Kd.R_mono HO309.out (fun _ hk => hk.2)))
        (case aS => exact (below_size zb))
        (case aL => have := LMc16.out; omega)
        intro v315 w29 ho hb hg hat
        rw [← Ny314.out] at ho
        have n0_ := aM (Kd.R_after (ok := (fun _ => True)) (mR_ HO_3.out) hg hat)
        have n1_ := aM (hb)
        have n2_ := aM ((show Kd.C k47 w29 (some ad304) y310.length y310 from by rw [Ny310.out]; exact Kd.C_take (m := (x5_2 : Int).toNat) ((Kd.R_reads' (Kd.R_after (ok := (fun _ => True)) (mR_ HO_3.out) hg hat)).2.2) KL25.out))
        have n3_ := aM ((show Kd.C k47 w29 A26 y324.length y324 from by rw [Ny324.out, KA26.out]; exact Kd.C_drop (m := (x5_2 : Int).toNat) (c := co22) ((Kd.R_reads' (Kd.R_after (ok := (fun _ => True)) (mR_ HO_3.out) hg hat)).2.2) KL26.out ((Kd.R_reads' (Kd.R_after (ok := (fun _ => True)) (mR_ HO_3.out) hg hat)).2.1)))
        have n4_ := aM (ho)
        clear HO_3
        clear HB
        clear HR313
        clear HR327
        clear HO309
        have HO_3 := n0_
        have HB := n1_
        have HR313 := n2_
        have HR327 := n3_
        have HO316 := n4_
        clear n0_ n1_ n2_ n3_ n4_
        clear ho hb hg hat
        refine hK.out _ _ ⟨((HB.out.cell (World.block_lt_of_cell? w _ hw317_0)).trans hw317_0), ((HB.out.cell (World.block_lt_of_cell? w _ hw317_1)).trans hw317_1), ((HB.out.cell (World.block_lt_of_cell? w _ hw317_2)).trans hw317_2)⟩ (fun hHeld => ?_)
        clear hK K
        refine norm_ (a' := ?_) ?_ ?_
        rotate_left
        ·show Act.put _ (some 34) _ = _
         simp only [Act.put, xA, xB, xC, i64_w, i32_w]
         rfl
        refine one_ (i := 9) (N := some 39) #[true, true, true, true, true, true, true, true, true, true, false, true, true, true, false, false] rfl rfl (one_of HT_.out (by kernel_rfl)) (by decide) (fun K hK => ?_)
        refine Kd.R_lit_step k47 _ 47 ?hg (N := 39) ?hd (xs := ([(⟨(rd_T47 l0 x4_1).f0, (rd_T47 l0 x4_1).f1, (rd_T47 l0 x4_1).f2⟩ : S47)] : List (S47))) (inner := [.int .i64 ((rd_T47 l0 x4_1).f0), .int .i64 ((rd_T47 l0 x4_1).f1), .int .i64 ((rd_T47 l0 x4_1).f2)]) (ok := fun _ => True) (okp := fun _ => True) ?hr ?hp (fun _ hk => hk) trivial (Below.refl _ _) (Nat.le_refl _) (by simp) ?_; (case hd => rfl); (case hg => rfl); (case hr => first | (go_simp; done) | (go_simp; rfl)); (case hp => exact (Reps.c3 (show Kd.M k47 _ _ _ (⟨(rd_T47 l0 x4_1).f0, (rd_T47 l0 x4_1).f1, (rd_T47 l0 x4_1).f2⟩ : S47) [.int .i64 ((rd_T47 l0 x4_1).f0), .int .i64 ((rd_T47 l0 x4_1).f1), .int .i64 ((rd_T47 l0 x4_1).f2)] from (k47_mkM _ _ _ (⟨(rd_T47 l0 x4_1).f0, (rd_T47 l0 x4_1).f1, (rd_T47 l0 x4_1).f2⟩ : S47) )) (Reps.none _ _)))
        intro v319 w30 ho31 hb hg_ hnew_
        clear hg_ hnew_
        (first | rw [← Ny318.out] at ho31 | (simp only [Int.reduceToNat] at ho31; rw [← Ny318.out] at ho31))
        have n0_ := aM (Kd.R_elder' (mR_ HO_3.out) (Kd.R_base ho31) hb)
        have n1_ := aM (Kd.R_elder' (mR_ HO316.out) (Kd.R_base ho31) hb)
        have n2_ := aM (Kd.R_lower (Kd.R_new' (Kd.R_new' ho31 (Kd.R_lt (mR_ HO_3.out))) (Kd.R_lt (mR_ HO316.out))) (below_size zb))
        have n3_ := aM (Kd.C_below (mQ_ HR313.out) hb)
        have n4_ := aM (Kd.C_below (mQ_ HR327.out) hb)
        have n5_ := aM (below_step zb hb)
        clear HO_3
        clear HO316
        clear HR313
        clear HR327
        clear HB
        have HO_3 := n0_
        have HO316 := n1_
        have HO320 := n2_
        have HR313 := n3_
        have HR327 := n4_
        have HB := n5_
        clear n0_ n1_ n2_ n3_ n4_ n5_
        clear hb ho31
        refine hK.out _ _ ⟨((HB.out.cell (World.block_lt_of_cell? w _ hw317_0)).trans hw317_0), ((HB.out.cell (World.block_lt_of_cell? w _ hw317_1)).trans hw317_1), ((HB.out.cell (World.block_lt_of_cell? w _ hw317_2)).trans hw317_2)⟩ (fun hHeld => ?_)
        clear hK K
        refine norm_ (a' := ?_) ?_ ?_
        rotate_left
        ·show Act.put _ (some 39) _ = _
         simp only [Act.put, xA, xB, xC, i64_w, i32_w]
         rfl
        exact norm_ (by simp only [putAll, Act.put, xA, xB, xC]) (hCont (v308, v315, v319) _ ⟨hHeld, (by (with_reducible repeat (first | apply Kd.R_alloc | apply Kd.R_drewN | apply Kd.R_drew)); exact Kd.R_mono HO316.out (fun _ hk => ⟨hk.2, hk.1⟩)), (by (with_reducible repeat (first | apply Kd.R_alloc | apply Kd.R_drewN | apply Kd.R_drew)); exact Kd.R_mono HO320.out (fun _ hk => ⟨hk.2, hk.1.2⟩)), (by (with_reducible repeat (first | apply Kd.R_alloc | apply Kd.R_drewN | apply Kd.R_drew)); exact Kd.R_mono HO_3.out (fun _ hk => ⟨hk.1.2, hk.2⟩)), zb⟩)
       ·skip
        refine Kd.R_lit_step k47 _ 47 ?hg (N := 39) ?hd (xs := ([(⟨(rd_T47 l0 x4_1).f0, (rd_T47 l0 x4_1).f1, (rd_T47 l0 x4_1).f2⟩ : S47)] : List (S47))) (inner := [.int .i64 ((rd_T47 l0 x4_1).f0), .int .i64 ((rd_T47 l0 x4_1).f1), .int .i64 ((rd_T47 l0 x4_1).f2)]) (ok := fun _ => True) (okp := fun _ => True) ?hr ?hp (fun _ hk => hk) trivial (Below.refl _ _) (Nat.le_refl _) (by simp) ?_; (case hd => rfl); (case hg => rfl); (case hr => first | (go_simp; done) | (go_simp; rfl)); (case hp => exact (Reps.c3 (show Kd.M k47 _ _ _ (⟨(rd_T47 l0 x4_1).f0, (rd_T47 l0 x4_1).f1, (rd_T47 l0 x4_1).f2⟩ : S47) [.int .i64 ((rd_T47 l0 x4_1).f0), .int .i64 ((rd_T47 l0 x4_1).f1), .int .i64 ((rd_T47 l0 x4_1).f2)] from (k47_mkM _ _ _ (⟨(rd_T47 l0 x4_1).f0, (rd_T47 l0 x4_1).f1, (rd_T47 l0 x4_1).f2⟩ : S47) )) (Reps.none _ _)))
        intro v319 w29 ho30 hb hg_ hnew_
        clear hg_ hnew_
        (first | rw [← Ny318.out] at ho30 | (simp only [Int.reduceToNat] at ho30; rw [← Ny318.out] at ho30))
        have n0_ := aM (Kd.R_elder' (mR_ HO_3.out) (Kd.R_base ho30) hb)
        have n1_ := aM (Kd.R_elder' (mR_ HO309.out) (Kd.R_base ho30) hb)
        have n2_ := aM (Kd.R_lower (Kd.R_new' (Kd.R_new' ho30 (Kd.R_lt (mR_ HO_3.out))) (Kd.R_lt (mR_ HO309.out))) (below_size zb))
        have n3_ := aM (Kd.C_below (mQ_ HR313.out) hb)
        have n4_ := aM (Kd.C_below (mQ_ HR327.out) hb)
        have n5_ := aM (below_step zb hb)
        clear HO_3
        clear HO309
        clear HR313
        clear HR327
        clear HB
        have HO_3 := n0_
        have HO309 := n1_
        have HO320 := n2_
        have HR313 := n3_
        have HR327 := n4_
        have HB := n5_
        clear n0_ n1_ n2_ n3_ n4_ n5_
        clear hb ho30
        refine hK.out _ _ ⟨((HB.out.cell (World.block_lt_of_cell? w _ hw317_0)).trans hw317_0), ((HB.out.cell (World.block_lt_of_cell? w _ hw317_1)).trans hw317_1), ((HB.out.cell (World.block_lt_of_cell? w _ hw317_2)).trans hw317_2)⟩ (fun hHeld => ?_)
        clear hK K
        refine norm_ (a' := ?_) ?_ ?_
        rotate_left
        ·show Act.put _ (some 39) _ = _
         simp only [Act.put, xA, xB, xC, i64_w, i32_w]
         rfl
        refine one_ (i := 4) (N := some 34) #[true, true, true, true, true, true, true, true, true, true, false, true, true, true, false, false] rfl rfl (one_of HT_.out (by kernel_rfl)) (by decide) (fun K hK => ?_)
        refine Kd.R_append_rows_step k47 (w0 := w) w.heap.size (by rfl) (.tmp 30) (.tmp 33) 35 47 (.agg #[(.int .i64 0), (.int .i64 0), (.int .i64 0)]) 24 rfl Try.underlying35 info47 rfl (by decide) (by omega) v308 y307 y310 _ _ _ (fun k_ => some k_ ≠ (.slice (some ad304) x3_1.length co22 : Value).ownBlock ∧ some k_ ≠ (v319 : Value).ownBlock) (fun _ => False) rfl rfl ?aO ?aR (fun _ _ h => h) (fun _ h => h.elim) ?aF ?aB ?aS ?aL ?_
        (case aR => repeat (first | exact (mQ_ HR313.out) | (with_reducible refine Kd.C_alloc ?_ _) | (with_reducible refine Kd.C_drewN ?_ _) | (with_reducible refine Kd.C_drew ?_)))
        (case aB => exact zb)
        (case aF => exact (fun k_ hk => ⟨Kd.fresh' (Kd.R_lt (mR_ HO_3.out)) k_ hk, Kd.fresh' (Kd.R_lt (mR_ HO320.out)) k_ hk⟩))
        (case aO => exact (by (with_reducible repeat (first | apply Kd.R_alloc | apply Kd.R_drewN | apply Kd.R_drew)); exact Kd.R_mono HO309.out (fun _ hk => ⟨hk.1.2, hk.2⟩)))
        (case aS => exact (below_size zb))
        (case aL => have := LMc16.out; omega)
        intro v315 w31 ho hb hg hat
        rw [← Ny314.out] at ho
        have n0_ := aM (Kd.R_after (ok := (fun k_ => some k_ ≠ (v319 : Value).ownBlock)) (by (with_reducible repeat (first | apply Kd.R_alloc | apply Kd.R_drewN | apply Kd.R_drew)); exact Kd.R_mono HO_3.out (fun _ hk => ⟨hk.2, hk.1.2⟩)) hg hat)
        have n1_ := aM (Kd.R_after (ok := (fun k_ => some k_ ≠ (.slice (some ad304) x3_1.length co22 : Value).ownBlock)) (by (with_reducible repeat (first | apply Kd.R_alloc | apply Kd.R_drewN | apply Kd.R_drew)); exact Kd.R_mono HO320.out (fun _ hk => ⟨hk.1.2, hk.2⟩)) hg hat)
        have n2_ := aM (hb)
        have n3_ := aM ((show Kd.C k47 w31 (some ad304) y310.length y310 from by rw [Ny310.out]; exact Kd.C_take (m := (x5_2 : Int).toNat) ((Kd.R_reads' (Kd.R_after (ok := (fun k_ => some k_ ≠ (v319 : Value).ownBlock)) (by (with_reducible repeat (first | apply Kd.R_alloc | apply Kd.R_drewN | apply Kd.R_drew)); exact Kd.R_mono HO_3.out (fun _ hk => ⟨hk.2, hk.1.2⟩)) hg hat)).2.2) KL25.out))
        have n4_ := aM ((show Kd.C k47 w31 A26 y324.length y324 from by rw [Ny324.out, KA26.out]; exact Kd.C_drop (m := (x5_2 : Int).toNat) (c := co22) ((Kd.R_reads' (Kd.R_after (ok := (fun k_ => some k_ ≠ (v319 : Value).ownBlock)) (by (with_reducible repeat (first | apply Kd.R_alloc | apply Kd.R_drewN | apply Kd.R_drew)); exact Kd.R_mono HO_3.out (fun _ hk => ⟨hk.2, hk.1.2⟩)) hg hat)).2.2) KL26.out ((Kd.R_reads' (Kd.R_after (ok := (fun k_ => some k_ ≠ (v319 : Value).ownBlock)) (by (with_reducible repeat (first | apply Kd.R_alloc | apply Kd.R_drewN | apply Kd.R_drew)); exact Kd.R_mono HO_3.out (fun _ hk => ⟨hk.2, hk.1.2⟩)) hg hat)).2.1)))
        have n5_ := aM (ho)
        clear HO_3
        clear HO320
        clear HB
        clear HR313
        clear HR327
        clear HO309
        have HO_3 := n0_
        have HO320 := n1_
        have HB := n2_
        have HR313 := n3_
        have HR327 := n4_
        have HO316 := n5_
        clear n0_ n1_ n2_ n3_ n4_ n5_
        clear ho hb hg hat
        refine hK.out _ _ ⟨((HB.out.cell (World.block_lt_of_cell? w _ hw317_0)).trans hw317_0), ((HB.out.cell (World.block_lt_of_cell? w _ hw317_1)).trans hw317_1), ((HB.out.cell (World.block_lt_of_cell? w _ hw317_2)).trans hw317_2)⟩ (fun hHeld => ?_)
        clear hK K
        refine norm_ (a' := ?_) ?_ ?_
        rotate_left
        ·show Act.put _ (some 34) _ = _
         simp only [Act.put, xA, xB, xC, i64_w, i32_w]
         rfl
        exact norm_ (by simp only [putAll, Act.put, xA, xB, xC]) (hCont (v308, v315, v319) _ ⟨hHeld, (by (with_reducible repeat (first | apply Kd.R_alloc | apply Kd.R_drewN | apply Kd.R_drew)); exact Kd.R_mono HO316.out (fun _ hk => ⟨hk.2, hk.1⟩)), (by (with_reducible repeat (first | apply Kd.R_alloc | apply Kd.R_drewN | apply Kd.R_drew)); exact Kd.R_mono HO320.out (fun _ hk => ⟨hk.2, hk.1⟩)), (by (with_reducible repeat (first | apply Kd.R_alloc | apply Kd.R_drewN | apply Kd.R_drew)); exact Kd.R_mono HO_3.out (fun _ hk => ⟨hk.2, hk.1⟩)), zb⟩)
      ·skip
       refine Kd.R_lit_step k47 _ 47 ?hg (N := 39) ?hd (xs := ([(⟨(rd_T47 l0 x4_1).f0, (rd_T47 l0 x4_1).f1, (rd_T47 l0 x4_1).f2⟩ : S47)] : List (S47))) (inner := [.int .i64 ((rd_T47 l0 x4_1).f0), .int .i64 ((rd_T47 l0 x4_1).f1), .int .i64 ((rd_T47 l0 x4_1).f2)]) (ok := fun _ => True) (okp := fun _ => True) ?hr ?hp (fun _ hk => hk) trivial (Below.refl _ _) (Nat.le_refl _) (by simp) ?_; (case hd => rfl); (case hg => rfl); (case hr => first | (go_simp; done) | (go_simp; rfl)); (case hp => exact (Reps.c3 (show Kd.M k47 _ _ _ (⟨(rd_T47 l0 x4_1).f0, (rd_T47 l0 x4_1).f1, (rd_T47 l0 x4_1).f2⟩ : S47) [.int .i64 ((rd_T47 l0 x4_1).f0), .int .i64 ((rd_T47 l0 x4_1).f1), .int .i64 ((rd_T47 l0 x4_1).f2)] from (k47_mkM _ _ _ (⟨(rd_T47 l0 x4_1).f0, (rd_T47 l0 x4_1).f1, (rd_T47 l0 x4_1).f2⟩ : S47) )) (Reps.none _ _)))
       intro v319 w27 ho28 hb hg_ hnew_
       clear hg_ hnew_
       (first | rw [← Ny318.out] at ho28 | (simp only [Int.reduceToNat] at ho28; rw [← Ny318.out] at ho28))
       have n0_ := aM (Kd.R_elder' (mR_ HO_3.out) (Kd.R_base ho28) hb)
       have n1_ := aM (Kd.R_lower (Kd.R_new' ho28 (Kd.R_lt (mR_ HO_3.out))) (below_size zb))
       have n2_ := aM (Kd.C_below (mQ_ HR313.out) hb)
       have n3_ := aM (Kd.C_below (mQ_ HR327.out) hb)
       have n4_ := aM (below_step zb hb)
       clear HO_3
       clear HR313
       clear HR327
       clear HB
       have HO_3 := n0_
       have HO320 := n1_
       have HR313 := n2_
       have HR327 := n3_
       have HB := n4_
       clear n0_ n1_ n2_ n3_ n4_
       clear hb ho28
       refine hK.out _ _ ⟨((HB.out.cell (World.block_lt_of_cell? w _ hw317_0)).trans hw317_0), ((HB.out.cell (World.block_lt_of_cell? w _ hw317_1)).trans hw317_1), ((HB.out.cell (World.block_lt_of_cell? w _ hw317_2)).trans hw317_2)⟩ (fun hHeld => ?_)
       clear hK K
       refine norm_ (a' := ?_) ?_ ?_
       rotate_left
       ·show Act.put _ (some 39) _ = _
        simp only [Act.put, xA, xB, xC, i64_w, i32_w]
        rfl
       refine one_ (i := 0) (N := some 30) #[true, true, true, true, false, true, true, true, true, true, false, true, true, true, false, false] rfl rfl (one_of HT_.out (by kernel_rfl)) (by decide) (fun K hK => ?_)
       refine Kd.R_lit_step k47 _ 47 ?hg (N := 30) ?hd (xs := ([] : List (S47))) (inner := []) (ok := fun _ => True) (okp := fun _ => True) ?hr ?hp (fun _ hk => hk) trivial (Below.refl _ _) (Nat.le_refl _) (by simp) ?_; (case hd => rfl); (case hg => rfl); (case hr => first | (go_simp; done) | (go_simp; rfl)); (case hp => exact (Reps.none _ _))
       intro v308 w29 ho30 hb hg_ hnew_
       clear hg_ hnew_
       (first | rw [← Ny307.out] at ho30 | (simp only [Int.reduceToNat] at ho30; rw [← Ny307.out] at ho30))
       have n0_ := aM (Kd.R_elder' (mR_ HO_3.out) (Kd.R_base ho30) hb)
       have n1_ := aM (Kd.R_elder' (mR_ HO320.out) (Kd.R_base ho30) hb)
       have n2_ := aM (Kd.R_lower (Kd.R_new' (Kd.R_new' ho30 (Kd.R_lt (mR_ HO_3.out))) (Kd.R_lt (mR_ HO320.out))) (below_size zb))
       have n3_ := aM (Kd.C_below (mQ_ HR313.out) hb)
       have n4_ := aM (Kd.C_below (mQ_ HR327.out) hb)
       have n5_ := aM (below_step zb hb)
       clear HO_3
       clear HO320
       clear HR313
       clear HR327
       clear HB
       have HO_3 := n0_
       have HO320 := n1_
       have HO309 := n2_
       have HR313 := n3_
       have HR327 := n4_
       have HB := n5_
       clear n0_ n1_ n2_ n3_ n4_ n5_
       clear hb ho30
       refine hK.out _ _ ⟨((HB.out.cell (World.block_lt_of_cell? w _ hw317_0)).trans hw317_0), ((HB.out.cell (World.block_lt_of_cell? w _ hw317_1)).trans hw317_1), ((HB.out.cell (World.block_lt_of_cell? w _ hw317_2)).trans hw317_2)⟩ (fun hHeld => ?_)
       clear hK K
       refine norm_ (a' := ?_) ?_ ?_
       rotate_left
       ·show Act.put _ (some 30) _ = _
        simp only [Act.put, xA, xB, xC, i64_w, i32_w]
        rfl
       refine one_ (i := 4) (N := some 34) #[true, true, true, true, true, true, true, true, true, true, false, true, true, true, false, false] rfl rfl (one_of HT_.out (by kernel_rfl)) (by decide) (fun K hK => ?_)
       refine Kd.R_append_rows_step k47 (w0 := w) w.heap.size (by rfl) (.tmp 30) (.tmp 33) 35 47 (.agg #[(.int .i64 0), (.int .i64 0), (.int .i64 0)]) 24 rfl Try.underlying35 info47 rfl (by decide) (by omega) v308 y307 y310 _ _ _ (fun k_ => some k_ ≠ (.slice (some ad304) x3_1.length co22 : Value).ownBlock ∧ some k_ ≠ (v319 : Value).ownBlock) (fun _ => False) rfl rfl ?aO ?aR (fun _ _ h => h) (fun _ h => h.elim) ?aF ?aB ?aS ?aL ?_
       (case aR => repeat (first | exact (mQ_ HR313.out) | (with_reducible refine Kd.C_alloc ?_ _) | (with_reducible refine Kd.C_drewN ?_ _) | (with_reducible refine Kd.C_drew ?_)))
       (case aB => exact zb)
       (case aF => exact (fun k_ hk => ⟨Kd.fresh' (Kd.R_lt (mR_ HO_3.out)) k_ hk, Kd.fresh' (Kd.R_lt (mR_ HO320.out)) k_ hk⟩))
       (case aO => exact (by (with_reducible repeat (first | apply Kd.R_alloc | apply Kd.R_drewN | apply Kd.R_drew)); exact Kd.R_mono HO309.out (fun _ hk => ⟨hk.1.2, hk.2⟩)))
       (case aS => exact (below_size zb))
       (case aL => have := LMc16.out; omega)
       intro v315 w31 ho hb hg hat
       rw [← Ny314.out] at ho
       have n0_ := aM (Kd.R_after (ok := (fun k_ => some k_ ≠ (v319 : Value).ownBlock)) (by (with_reducible repeat (first | apply Kd.R_alloc | apply Kd.R_drewN | apply Kd.R_drew)); exact Kd.R_mono HO_3.out (fun _ hk => ⟨hk.1.2, hk.2⟩)) hg hat)
       have n1_ := aM (Kd.R_after (ok := (fun k_ => some k_ ≠ (.slice (some ad304) x3_1.length co22 : Value).ownBlock)) (by (with_reducible repeat (first | apply Kd.R_alloc | apply Kd.R_drewN | apply Kd.R_drew)); exact Kd.R_mono HO320.out (fun _ hk => ⟨hk.1.2, hk.2⟩)) hg hat)
       have n2_ := aM (hb)
       have n3_ := aM ((show Kd.C k47 w31 (some ad304) y310.length y310 from by rw [Ny310.out]; exact Kd.C_take (m := (x5_2 : Int).toNat) ((Kd.R_reads' (Kd.R_after (ok := (fun k_ => some k_ ≠ (v319 : Value).ownBlock)) (by (with_reducible repeat (first | apply Kd.R_alloc | apply Kd.R_drewN | apply Kd.R_drew)); exact Kd.R_mono HO_3.out (fun _ hk => ⟨hk.1.2, hk.2⟩)) hg hat)).2.2) KL25.out))
       have n4_ := aM ((show Kd.C k47 w31 A26 y324.length y324 from by rw [Ny324.out, KA26.out]; exact Kd.C_drop (m := (x5_2 : Int).toNat) (c := co22) ((Kd.R_reads' (Kd.R_after (ok := (fun k_ => some k_ ≠ (v319 : Value).ownBlock)) (by (with_reducible repeat (first | apply Kd.R_alloc | apply Kd.R_drewN | apply Kd.R_drew)); exact Kd.R_mono HO_3.out (fun _ hk => ⟨hk.1.2, hk.2⟩)) hg hat)).2.2) KL26.out ((Kd.R_reads' (Kd.R_after (ok := (fun k_ => some k_ ≠ (v319 : Value).ownBlock)) (by (with_reducible repeat (first | apply Kd.R_alloc | apply Kd.R_drewN | apply Kd.R_drew)); exact Kd.R_mono HO_3.out (fun _ hk => ⟨hk.1.2, hk.2⟩)) hg hat)).2.1)))
       have n5_ := aM (ho)
       clear HO_3
       clear HO320
       clear HB
       clear HR313
       clear HR327
       clear HO309
       have HO_3 := n0_
       have HO320 := n1_
       have HB := n2_
       have HR313 := n3_
       have HR327 := n4_
       have HO316 := n5_
       clear n0_ n1_ n2_ n3_ n4_ n5_
       clear ho hb hg hat
       refine hK.out _ _ ⟨((HB.out.cell (World.block_lt_of_cell? w _ hw317_0)).trans hw317_0), ((HB.out.cell (World.block_lt_of_cell? w _ hw317_1)).trans hw317_1), ((HB.out.cell (World.block_lt_of_cell? w _ hw317_2)).trans hw317_2)⟩ (fun hHeld => ?_)
       clear hK K
       refine norm_ (a' := ?_) ?_ ?_
       rotate_left
       ·show Act.put _ (some 34) _ = _
        simp only [Act.put, xA, xB, xC, i64_w, i32_w]
        rfl
       exact norm_ (by simp only [putAll, Act.put, xA, xB, xC]) (hCont (v308, v315, v319) _ ⟨hHeld, (by (with_reducible repeat (first | apply Kd.R_alloc | apply Kd.R_drewN | apply Kd.R_drew)); exact Kd.R_mono HO316.out (fun _ hk => ⟨hk.2, hk.1⟩)), (by (with_reducible repeat (first | apply Kd.R_alloc | apply Kd.R_drewN | apply Kd.R_drew)); exact Kd.R_mono HO320.out (fun _ hk => ⟨hk.2, hk.1⟩)), (by (with_reducible repeat (first | apply Kd.R_alloc | apply Kd.R_drewN | apply Kd.R_drew)); exact Kd.R_mono HO_3.out (fun _ hk => ⟨hk.2, hk.1⟩)), zb⟩)
     rintro ⟨v308, v315, v319⟩ w32 ⟨hS_, h0_, h1_, h2_, h3_⟩
     have n0_ : Aside0 (Kd.R k47 47 w32 w.heap.size (fun k_ => some k_ ≠ (v319 : Value).ownBlock ∧ some k_ ≠ (.slice (some ad304) x3_1.length co22 : Value).ownBlock) v315 y314) := ⟨h0_⟩
     have n1_ : Aside0 (Kd.R k47 47 w32 w.heap.size (fun k_ => some k_ ≠ (v315 : Value).ownBlock ∧ some k_ ≠ (.slice (some ad304) x3_1.length co22 : Value).ownBlock) v319 y318) := ⟨h1_⟩
     have n2_ : Aside0 (Kd.R k47 47 w32 w.heap.size (fun k_ => some k_ ≠ (v315 : Value).ownBlock ∧ some k_ ≠ (v319 : Value).ownBlock) (.slice (some ad304) x3_1.length co22) x3_1) := ⟨h2_⟩
     have n3_ : Aside0 (Below w.heap.size w w32) := ⟨h3_⟩
     clear HO_3
     clear HB
     clear h0_ h1_ h2_ h3_
     have HO316 := n0_
     have HO320 := n1_
     have HO_3 := n2_
     have HB := n3_
     clear n0_ n1_ n2_ n3_
     have hHeld : (spec_l09Sort.d3 w32 ad305 x4_1 l0) := hS_
     (try clear HR313)
     have HR313 := aM (show Kd.C k47 _ (some ad304) y310.length y310 from by rw [Ny310.out]; exact Kd.C_take (m := (x5_2 : Int).toNat) ((Kd.R_reads' HO_3.out).2.2) KL25.out)
     (try clear HR327)
     have HR327 := aM (show Kd.C k47 _ A26 y324.length y324 from by rw [Ny324.out, KA26.out]; exact Kd.C_drop (m := (x5_2 : Int).toNat) (c := co22) ((Kd.R_reads' HO_3.out).2.2) KL26.out ((Kd.R_reads' HO_3.out).2.1))
     obtain ⟨Ao34, co34, eo34⟩ := Kd.R_slice HO320.out
     (first | subst eo34 | (injection eo34 with f1_ f2_ f3_; have f4_ := f1_.symm; have f5_ := f3_.symm; clear f1_ f2_ f3_; subst f4_; subst f5_))
     refine norm_ (a' := ?_) ?_ ?_
     rotate_left
     ·simp only [putAll, Act.put, xA, xB, xC]
      rfl
     refine one_ (i := 10) (N := some 40) #[true, true, true, true, true, true, true, true, true, true, true, true, true, true, false, false] rfl rfl (one_of HT_.out (by kernel_rfl)) (by decide) (fun K hK => ?_)
     refine Kd.R_append_rows_step k47 (w0 := w) w.heap.size (by rfl) (.tmp 34) (.tmp 39) 35 47 (.agg #[(.int .i64 0), (.int .i64 0), (.int .i64 0)]) 24 rfl Try.underlying35 info47 rfl (by decide) (by omega) v315 y314 y318 _ _ _ (fun k_ => some k_ ≠ (.slice (some ad304) x3_1.length co22 : Value).ownBlock ∧ some k_ ≠ (.slice Ao34 y318.length co34 : Value).ownBlock) (fun _ => False) rfl rfl ?aO ?aR (fun _ _ h => h) (fun _ h => h.elim) ?aF ?aB ?aS ?aL ?_
     (case aR => repeat (first | exact (Kd.R_reads' HO320.out).2.2 | (with_reducible refine Kd.C_alloc ?_ _) | (with_reducible refine Kd.C_drewN ?_ _) | (with_reducible refine Kd.C_drew ?_)))
     (case aB => exact zb)
     (case aF => exact (fun k_ hk => ⟨Kd.fresh' (Kd.R_lt (mR_ HO_3.out)) k_ hk, Kd.fresh' (Kd.R_lt (mR_ HO320.out)) k_ hk⟩))
     (case aO => exact (by (with_reducible repeat (first | apply Kd.R_alloc | apply Kd.R_drewN | apply Kd.R_drew)); exact Kd.R_mono HO316.out (fun _ hk => ⟨hk.2, hk.1⟩)))
     (case aS => exact (below_size zb))
     (case aL => have := LMc17.out; omega)
     intro v322 w33 ho hb hg hat
     rw [← Ny321.out] at ho
     have n0_ := aM (Kd.R_after (ok := (fun k_ => some k_ ≠ (.slice Ao34 y318.length co34 : Value).ownBlock)) (by (with_reducible repeat (first | apply Kd.R_alloc | apply Kd.R_drewN | apply Kd.R_drew)); exact Kd.R_mono HO_3.out (fun _ hk => ⟨hk.2, hk.1⟩)) hg hat)
     have n1_ := aM (Kd.R_after (ok := (fun k_ => some k_ ≠ (.slice (some ad304) x3_1.length co22 : Value).ownBlock)) (by (with_reducible repeat (first | apply Kd.R_alloc | apply Kd.R_drewN | apply Kd.R_drew)); exact Kd.R_mono HO320.out (fun _ hk => ⟨hk.2, hk.1⟩)) hg hat)
     have n2_ := aM (hb)
     have n3_ := aM ((show Kd.C k47 w33 (some ad304) y310.length y310 from by rw [Ny310.out]; exact Kd.C_take (m := (x5_2 : Int).toNat) ((Kd.R_reads' (Kd.R_after (ok := (fun k_ => some k_ ≠ (.slice Ao34 y318.length co34 : Value).ownBlock)) (by (with_reducible repeat (first | apply Kd.R_alloc | apply Kd.R_drewN | apply Kd.R_drew)); exact Kd.R_mono HO_3.out (fun _ hk => ⟨hk.2, hk.1⟩)) hg hat)).2.2) KL25.out))
     have n4_ := aM ((show Kd.C k47 w33 A26 y324.length y324 from by rw [Ny324.out, KA26.out]; exact Kd.C_drop (m := (x5_2 : Int).toNat) (c := co22) ((Kd.R_reads' (Kd.R_after (ok := (fun k_ => some k_ ≠ (.slice Ao34 y318.length co34 : Value).ownBlock)) (by (with_reducible repeat (first | apply Kd.R_alloc | apply Kd.R_drewN | apply Kd.R_drew)); exact Kd.R_mono HO_3.out (fun _ hk => ⟨hk.2, hk.1⟩)) hg hat)).2.2) KL26.out ((Kd.R_reads' (Kd.R_after (ok := (fun k_ => some k_ ≠ (.slice Ao34 y318.length co34 : Value).ownBlock)) (by (with_reducible repeat (first | apply Kd.R_alloc | apply Kd.R_drewN | apply Kd.R_drew)); exact Kd.R_mono HO_3.out (fun _ hk => ⟨hk.2, hk.1⟩)) hg hat)).2.1)))
     have n5_ := aM (ho)
     clear HO_3
     clear HO320
     clear HB
     clear HR313
     clear HR327
     clear HO316
     have HO_3 := n0_
     have HO320 := n1_
     have HB := n2_
     have HR313 := n3_
     have HR327 := n4_
     have HO323 := n5_
     clear n0_ n1_ n2_ n3_ n4_ n5_
     clear ho hb hg hat
     refine hK.out _ _ ⟨((HB.out.cell (World.block_lt_of_cell? w _ hw317_0)).trans hw317_0), ((HB.out.cell (World.block_lt_of_cell? w _ hw317_1)).trans hw317_1), ((HB.out.cell (World.block_lt_of_cell? w _ hw317_2)).trans hw317_2)⟩ (fun hHeld => ?_)
     clear hK K
     refine norm_ (a' := ?_) ?_ ?_
     rotate_left
     ·show Act.put _ (some 40) _ = _
      simp only [Act.put, xA, xB, xC, i64_w, i32_w]
      rfl
     refine one_ (i := 14) (N := some 44) #[true, true, true, true, true, true, true, true, true, true, true, true, true, true, true, false] rfl rfl (one_of HT_.out (by kernel_rfl)) (by decide) (fun K hK => ?_)
     refine Kd.R_append_rows_step k47 (w0 := w) w.heap.size (by rfl) (.tmp 40) (.tmp 43) 35 47 (.agg #[(.int .i64 0), (.int .i64 0), (.int .i64 0)]) 24 rfl Try.underlying35 info47 rfl (by decide) (by omega) v322 y321 y324 _ _ _ (fun k_ => some k_ ≠ (.slice (some ad304) x3_1.length co22 : Value).ownBlock ∧ some k_ ≠ (.slice Ao34 y318.length co34 : Value).ownBlock) (fun _ => False) rfl rfl ?aO ?aR (fun _ _ h => h) (fun _ h => h.elim) ?aF ?aB ?aS ?aL ?_
     (case aR => repeat (first | exact (mQ_ HR327.out) | (with_reducible refine Kd.C_alloc ?_ _) | (with_reducible refine Kd.C_drewN ?_ _) | (with_reducible refine Kd.C_drew ?_)))
     (case aB => exact zb)
     (case aF => exact (fun k_ hk => ⟨Kd.fresh' (Kd.R_lt (mR_ HO_3.out)) k_ hk, Kd.fresh' (Kd.R_lt (mR_ HO320.out)) k_ hk⟩))
     (case aO => exact (mR_ HO323.out))
     (case aS => exact (below_size zb))
     (case aL => have := LMc20.out; omega)
     intro v329 w35 ho hb hg hat
     rw [← Ny328.out] at ho
     have n0_ := aM (Kd.R_after (ok := (fun k_ => some k_ ≠ (.slice Ao34 y318.length co34 : Value).ownBlock)) (mR_ HO_3.out) hg hat)
     have n1_ := aM (Kd.R_after (ok := (fun k_ => some k_ ≠ (.slice (some ad304) x3_1.length co22 : Value).ownBlock)) (mR_ HO320.out) hg hat)
     have n2_ := aM (hb)
     have n3_ := aM ((show Kd.C k47 w35 (some ad304) y310.length y310 from by rw [Ny310.out]; exact Kd.C_take (m := (x5_2 : Int).toNat) ((Kd.R_reads' (Kd.R_after (ok := (fun k_ => some k_ ≠ (.slice Ao34 y318.length co34 : Value).ownBlock)) (mR_ HO_3.out) hg hat)).2.2) KL25.out))
     have n4_ := aM ((show Kd.C k47 w35 A26 y324.length y324 from by rw [Ny324.out, KA26.out]; exact Kd.C_drop (m := (x5_2 : Int).toNat) (c := co22) ((Kd.R_reads' (Kd.R_after (ok := (fun k_ => some k_ ≠ (.slice Ao34 y318.length co34 : Value).ownBlock)) (mR_ HO_3.out) hg hat)).2.2) KL26.out ((Kd.R_reads' (Kd.R_after (ok := (fun k_ => some k_ ≠ (.slice Ao34 y318.length co34 : Value).ownBlock)) (mR_ HO_3.out) hg hat)).2.1)))
     have n5_ := aM (ho)
     clear HO_3
     clear HO320
     clear HB
     clear HR313
     clear HR327
     clear HO323
     have HO_3 := n0_
     have HO320 := n1_
     have HB := n2_
     have HR313 := n3_
     have HR327 := n4_
     have HO330 := n5_
     clear n0_ n1_ n2_ n3_ n4_ n5_
     clear ho hb hg hat
     refine hK.out _ _ ⟨((HB.out.cell (World.block_lt_of_cell? w _ hw317_0)).trans hw317_0), ((HB.out.cell (World.block_lt_of_cell? w _ hw317_1)).trans hw317_1), ((HB.out.cell (World.block_lt_of_cell? w _ hw317_2)).trans hw317_2)⟩ (fun hHeld => ?_)
     clear hK K
     refine norm_ (a' := ?_) ?_ ?_
     rotate_left
     ·show Act.put _ (some 44) _ = _
      simp only [Act.put, xA, xB, xC, i64_w, i32_w]
      rfl
     refine pure_ (i := 15) (N := some 3) (v := ?_) (a' := ?_) #[true, true, true, true, true, true, true, true, true, true, true, true, true, true, true, true] rfl rfl zz (fun _ _ _ h => h) (Or.inl ⟨by rfl, ?_⟩) ?_ ?_
     rotate_left
     ·intro w'
      go_simp
      with_reducible rfl
     rotate_left
     ·simp only [Act.put, xA, xB, xC, i64_w, i32_w]
      rfl
     refine done_ (done_of HT_.out (by kernel_rfl)) ?_
     try go_wp2
     go_roundg k2
     case measure => have := HK1.out; have := HK2.out; omega
     case rel => exact ⟨(y328), (wrap64 (x4_1 + 1)), zr, H', ⟨by have := HK1.out; have := HK2.out; omega⟩, ⟨by (with_reducible repeat (first | apply Kd.R_alloc | apply Kd.R_drewN | apply Kd.R_drew)); exact Kd.R_mono HO330.out (fun _ hk => trivial)⟩, ⟨zb⟩⟩
end Go.Proofs.Ytdcpahfpnjnmcaa.F
end
section
namespace Go.Proofs.Ytdcpahfpnjnmcaa.F
open Go.RowKit Go.Proofs.YtdcpahfpnjnmcaaW.PrintWords Go.Proofs.YtdcpahfpnjnmcaaW.PrintLast Go.Proofs.YtdcpahfpnjnmcaaW.PrintMore
attribute [local go_sem] max2_int min2_int max_two min_two max_three min_three max_four min_four
set_option linter.unusedVariables false
set_option linter.unusedSimpArgs false
mutual
def spec_l09Draw.l0 : Nat → List (S47) → Int → List Int → Int → Int → Option ((List (S47)) × Int × Int)
 | 0, _, _, _, _, _ => none
 | k + 1, x3, x4, x1000, x1001, x1002 => if x4 > 0 then ((spec_l01Next.f x1000 x1001 x1002 (x3.length : Int)).bind fun bt370 => (if 0 ≤ bt370.1 then (if bt370.1 < (x3.length : Int) then ((spec_l09Steps.f).bind fun t374 => ((spec_l01Next.f x1000 bt370.2.1 bt370.2.2 6).bind fun bt377 => (if 0 ≤ bt377.1 then (if bt377.1 < (t374.length : Int) then ((spec_l09Add.f ((rd_T47 x3 bt370.1).f0) ((rd_T47 x3 bt370.1).f1) ((rd_T47 x3 bt370.1).f2) ((rd_T47 t374 bt377.1).f0) ((rd_T47 t374 bt377.1).f1) ((rd_T47 t374 bt377.1).f2)).bind fun bt381 => ((spec_l09Index.f k x3 bt381.1 bt381.2.1 bt381.2.2).bind fun t385 => (if t385 < 0 then (if x3.length < 5864062014805 then ((spec_l09Sort.f k (x3 ++ [(⟨bt381.1, bt381.2.1, bt381.2.2⟩ : S47)])).bind fun t389 => (spec_l09Draw.l0 k t389 (wrap64 (x4 - 1)) x1000 bt377.2.1 bt377.2.2)) else (none)) else (spec_l09Draw.l0 k x3 (wrap64 (x4 - 1)) x1000 bt377.2.1 bt377.2.2)))) else (none)) else (none)))) else (none)) else (none))) else ((spec_l01Next.f x1000 x1001 x1002 (x3.length : Int)).bind fun bt392 => ((spec_l01Next.f x1000 bt392.2.1 bt392.2.2 24).bind fun bt395 => (if bt395.1 = 0 then ((some (([(-100), 100, 101] : List Int) : List Int)).bind fun y398 => ((spec_l01Next.f x1000 bt395.2.1 bt395.2.2 3).bind fun bt401 => (if 0 ≤ bt401.1 then (if bt401.1 < (y398.length : Int) then (if 0 ≤ bt392.1 then (if bt392.1 < (x3.length : Int) then ((spec_l09Sort.f k (x3.set (bt392.1 : Int).toNat (⟨(rd_T47 x3 bt392.1).f0, (rd_T47 x3 bt392.1).f1, rd y398 bt401.1⟩ : S47))).bind fun t406 => (some (t406, bt401.2.1, bt401.2.2))) else (none)) else (none)) else (none)) else (none)))) else (if bt395.1 = 1 then (if 0 ≤ bt392.1 then (if bt392.1 < (x3.length : Int) then (if x3.length < 5864062014805 then (some ((x3 ++ [(⟨(rd_T47 x3 bt392.1).f0, (rd_T47 x3 bt392.1).f1, (rd_T47 x3 bt392.1).f2⟩ : S47)]), bt395.2.1, bt395.2.2)) else (none)) else (none)) else (none)) else (if bt395.1 = 2 then (some (([] : List (S47)), bt395.2.1, bt395.2.2)) else (if bt395.1 = 3 then (if 0 ≤ (wrap64 ((x3.length : Int) - 1)) then (if (wrap64 ((x3.length : Int) - 1)) < (x3.length : Int) then (if x3.length < 5864062014805 then (some ((x3 ++ [(⟨0, 0, wrap64 (((rd_T47 x3 (wrap64 ((x3.length : Int) - 1))).f2) + 2)⟩ : S47)]), bt395.2.1, bt395.2.2)) else (none)) else (none)) else (none)) else (if bt395.1 = 4 then (spec_l09Draw.l1 k (([] : List (S47))) 0 x1000 bt395.2.1 bt395.2.2) else (if bt395.1 = 5 then ((spec_l01Next.f x1000 bt395.2.1 bt395.2.2 2).bind fun bt426 => (some ((([(⟨0, 0, (-60)⟩ : S47), (⟨0, 0, wrap64 (40 + bt426.1)⟩ : S47)] : List (S47))), bt426.2.1, bt426.2.2))) else (some (x3, bt395.2.1, bt395.2.2))))))))))
def spec_l09Draw.l1 : Nat → List (S47) → Int → List Int → Int → Int → Option ((List (S47)) × Int × Int)
 | 0, _, _, _, _, _ => none
 | k + 1, x7, x8, x1000, x1001, x1002 => (spec_l01Next.f x1000 x1001 x1002 2).bind fun bt420 => (if x8 < (wrap64 (24 + bt420.1)) then (if x7.length < 5864062014805 then (spec_l09Draw.l1 k (x7 ++ [(⟨Int.tmod x8 5, wrap64 (Int.tdiv x8 5), 0⟩ : S47)]) (wrap64 (x8 + 1)) x1000 bt420.2.1 bt420.2.2) else (none)) else (some (x7, bt420.2.1, bt420.2.2)))
end
def spec_l09Draw.f (k : Nat) (s0_0 : List Int) (s0_1 : Int) (s0_2 : Int) : Option ((List (S47)) × Int × Int) := (spec_l01Next.f s0_0 s0_1 s0_2 5).bind fun bt355 => ((spec_l01Next.f s0_0 bt355.2.1 bt355.2.2 5).bind fun bt358 => ((spec_l01Next.f s0_0 bt358.2.1 bt358.2.2 5).bind fun bt361 => ((spec_l01Next.f s0_0 bt361.2.1 bt361.2.2 7).bind fun bt367 => (spec_l09Draw.l0 k (([(⟨wrap64 (bt355.1 - 2), wrap64 (bt358.1 - 2), wrap64 (bt361.1 - 2)⟩ : S47)] : List (S47))) bt367.1 s0_0 bt367.2.1 bt367.2.2))))
def spec_l09Draw.T5 : Bool × List (List Nat × List Nat) := (true, [([], []), ([], []), ([], []), ([2], [2]), ([1, 3], [1, 3]), ([0, 4], [0, 4]), ([5], [5]), ([4], []), ([], []), ([8, 7], [8]), ([7, 9], [7, 9]), ([10], [10]), ([6, 11, 9], [6, 11]), ([], []), ([13, 12, 12, 0, 1, 2, 3, 4, 5, 6, 7, 8, 9, 10, 11, 12, 13], [12, 13])])
def spec_l09Draw.B5 : List Nat := [0, 0, 0, 4, 14, 31, 63, 30, 0, 414, 926, 1950, 4095, 0, 16383]
theorem spec_l09Draw.tab5 : rtab .any (opsOf Try.f49 5) = spec_l09Draw.T5 := by kernel_rfl
theorem spec_l09Draw.bits5 : waitsOk spec_l09Draw.T5.2 spec_l09Draw.B5 = true := by kernel_rfl
end Go.Proofs.Ytdcpahfpnjnmcaa.F
end
