/- The row of FnExactSolids, with what it needs: text 4 of 12. -/
import Derived.Test.YtlompfboheiliaaKSO2
set_option maxHeartbeats 8000000
set_option maxRecDepth 100000
section
namespace Go.Proofs.Ytlompfboheiliaa.F
open Go.RowKit Go.Proofs.YtlompfboheiliaaW.PrintWords Go.Proofs.YtlompfboheiliaaW.PrintLast Go.Proofs.YtlompfboheiliaaW.PrintMore
attribute [local go_sem] max2_int min2_int max_two min_two max_three min_three max_four min_four
set_option linter.unusedVariables false
set_option linter.unusedSimpArgs false
abbrev spec_l09Sort.c3 (w : World) (a : Addr) (i : Int) (l : List S43) (R : Prop) : Prop := w.cell? (a.add (i.toNat * 3)) = some (.int .i64 ((rd_T43 l i).f0)) ∧ w.cell? ⟨(a.add (i.toNat * 3)).block, (a.add (i.toNat * 3)).off + 1, none⟩ = some (.int .i64 ((rd_T43 l i).f1)) ∧ w.cell? ⟨(a.add (i.toNat * 3)).block, (a.add (i.toNat * 3)).off + 2, none⟩ = some (.int .i64 ((rd_T43 l i).f2)) ∧ R
abbrev spec_l09Sort.d3 (w : World) (a : Addr) (i : Int) (l : List S43) : Prop := w.cell? (a.add (i.toNat * 3)) = some (.int .i64 ((rd_T43 l i).f0)) ∧ w.cell? ⟨(a.add (i.toNat * 3)).block, (a.add (i.toNat * 3)).off + 1, none⟩ = some (.int .i64 ((rd_T43 l i).f1)) ∧ w.cell? ⟨(a.add (i.toNat * 3)).block, (a.add (i.toNat * 3)).off + 2, none⟩ = some (.int .i64 ((rd_T43 l i).f2))
theorem spec_l09Sort.calls (k : Nat) (A0 : Option Addr) (c0 : Nat) (l0 : List (S43)) (r : List (S43)) (w : World) (hr0 : Kd.C k43 w A0 l0.length l0) (hc0 : l0.length ≤ c0) (h : spec_l09Sort.f k l0 = some r) :
  Calls Try.prog 30 #[.slice A0 l0.length c0] w fun e w' => ∃ v0_ : Value, e = .returned (v0_) ∧ Kd.R k43 43 w' w.heap.size (fun _ => True) v0_ r ∧ Below w.heap.size w w' := by
 have hu43 := Try.underlying43
 have HR0 := aM hr0
 have HC0 := aM hc0
 clear hr0 hc0
 have HB := aM (Below.refl w.heap.size w)
 have H : (spec_l09Sort.l0 k l0 (([] : List (S43))) 0) = some r := h
 clear h
 obtain ⟨y191, hy191⟩ : ∃ y_ : List (S43), y_ = (([] : List (S43))) := ⟨_, rfl⟩
 replace H : (spec_l09Sort.l0 k l0 y191 0) = some r := zy H hy191
 have Ny191 := aM hy191
 clear hy191
 have H' := aM H
 clear H
 go_enter Try.func30, Try.ntmps30
 go_wp2_with (first | ((with_reducible refine gate_dst (N := 6) rfl ?_); refine Kd.R_lit k43 _ 43 ?hg (N := 6) ?hd (xs := ([] : List (S43))) (inner := []) (ok := fun _ => True) (okp := fun _ => True) ?hr ?hp (fun _ hk => hk) trivial (Below.refl _ _) (Nat.le_refl _) (by simp) ?_; (case hd => rfl); (case hg => rfl); (case hr => first | (go_simp; done) | (go_simp; rfl)); (case hp => exact (Reps.none _ _)); intro v192 w2 ho3 hb hg_ hnew_; clear hg_ hnew_; (first | rw [← Ny191.out] at ho3 | (simp only [Int.reduceToNat] at ho3; rw [← Ny191.out] at ho3)); have n0_ := aM (Kd.R_lower ho3 (below_size zb)); have n1_ := aM (below_step zb hb); clear HB; have HO193 := n0_; have HB := n1_; clear n0_ n1_; clear hb ho3))
 go_loopg [3, 4] k (fun kq v3 v4 w' => ∃ (x3_1 : List (S43)) (x4_1 : Int), v4 = .int .i64 x4_1 ∧ Aside0 (spec_l09Sort.l0 kq l0 x3_1 x4_1 = some r) ∧ Aside0 (kq ≤ k) ∧ Aside0 (Kd.R k43 43 w' w.heap.size (fun _ => True) v3 x3_1) ∧ Aside0 (Below w.heap.size w w'))
 case atStart => exact ⟨(y191), (0), zr, H', ⟨Nat.le_refl _⟩, ⟨mR_ HO193.out⟩, ⟨zb⟩⟩
 case round =>
  clear H'
  try clear p2
  try clear c3
  obtain ⟨x3_1, x4_1, rfl, HA, HK1, HO_3, HB⟩ := hrel
  cases gk with
  | zero => exact absurd HA.out (by simp [spec_l09Sort.l0])
  | succ k1 =>
   have H := HA.out
   clear HA
   simp only [spec_l09Sort.l0] at H
   by_cases c4 : x4_1 < (l0.length : Int)
   rotate_left
   ·rw [if_neg c4] at H
    have c4b0 : decide (x4_1 < (l0.length : Int)) = false := decide_eq_false c4
    clear c4
    obtain rfl := Option.some.inj H
    go_wp2
    go_ret
    exact ⟨_, zw, mR_ HO_3.out, zb⟩
   rw [if_pos c4] at H
   have c4b0 : decide (x4_1 < (l0.length : Int)) = true := decide_eq_true c4
   clear c4
   have H' := aM H
   clear H
   go_wp2
   go_loopg [5] k1 (fun kq v5 w' => ∃ (x5_2 : Int), v5 = .int .i64 x5_2 ∧ Aside0 (spec_l09Sort.l1 kq l0 x3_1 x4_1 x5_2 = some r) ∧ Aside0 (kq ≤ k1) ∧ Aside0 (Kd.R k43 43 w' w.heap.size (fun _ => True) u3 x3_1) ∧ Aside0 (Below w.heap.size w w'))
   case atStart => exact ⟨(0), zr, H', ⟨Nat.le_refl _⟩, ⟨mR_ HO_3.out⟩, ⟨zb⟩⟩
   case round =>
    clear H'
    try clear p2
    try clear c3
    try clear c4
    try clear c4b0
    try clear p2
    obtain ⟨x5_2, rfl, HA, HK2, HO_3, HB⟩ := hrel
    cases gk with
    | zero => exact absurd HA.out (by simp [spec_l09Sort.l1])
    | succ k2 =>
     have H := HA.out
     clear HA
     simp only [spec_l09Sort.l1] at H
     by_cases c5 : x5_2 < (x3_1.length : Int)
     rotate_left
     ·rw [if_neg c5] at H
      have c5b0 : decide (x5_2 < (x3_1.length : Int)) = false := decide_eq_false c5
      clear c5
      obtain ⟨y221, hy221⟩ : ∃ y_ : List (S43), y_ = (([] : List (S43))) := ⟨_, rfl⟩
      replace H : (if 0 ≤ x5_2 then (if x5_2 ≤ (x3_1.length : Int) then ((some (x3_1.take (x5_2 : Int).toNat : List (S43))).bind fun y224 => (if y221.length + y224.length < 5864062014805 then ((some (y221 ++ y224 : List (S43))).bind fun y228 => (if 0 ≤ x4_1 then (if x4_1 < (l0.length : Int) then ((some (([(⟨(rd_T43 l0 x4_1).f0, (rd_T43 l0 x4_1).f1, (rd_T43 l0 x4_1).f2⟩ : S43)] : List (S43)) : List (S43))).bind fun y232 => (if y228.length + y232.length < 5864062014805 then ((some (y228 ++ y232 : List (S43))).bind fun y235 => ((some (x3_1.drop (x5_2 : Int).toNat : List (S43))).bind fun y238 => (if y235.length + y238.length < 5864062014805 then (spec_l09Sort.l0 k2 l0 (y235 ++ y238) (wrap64 (x4_1 + 1))) else (none)))) else (none))) else (none)) else (none))) else (none))) else (none)) else (none)) = some r := zy H hy221
      have Ny221 := aM hy221
      clear hy221
      by_cases c36 : 0 ≤ x5_2
      rotate_left
      ·rw [if_neg c36] at H
       exact absurd H (by simp)
      rw [if_pos c36] at H
      have c36b0 := eq_true c36
      have c36b1 : decide (0 ≤ x5_2) = true := decide_eq_true c36
      clear c36
      by_cases c37 : x5_2 ≤ (x3_1.length : Int)
      rotate_left
      ·rw [if_neg c37] at H
       exact absurd H (by simp)
      rw [if_pos c37] at H
      have c37b0 := eq_true c37
      have c37b1 : decide (x5_2 ≤ (x3_1.length : Int)) = true := decide_eq_true c37
      clear c37
      obtain ⟨y224, hy224⟩ : ∃ y_ : List (S43), y_ = (x3_1.take (x5_2 : Int).toNat) := ⟨_, rfl⟩
      replace H : (if y221.length + y224.length < 5864062014805 then ((some (y221 ++ y224 : List (S43))).bind fun y228 => (if 0 ≤ x4_1 then (if x4_1 < (l0.length : Int) then ((some (([(⟨(rd_T43 l0 x4_1).f0, (rd_T43 l0 x4_1).f1, (rd_T43 l0 x4_1).f2⟩ : S43)] : List (S43)) : List (S43))).bind fun y232 => (if y228.length + y232.length < 5864062014805 then ((some (y228 ++ y232 : List (S43))).bind fun y235 => ((some (x3_1.drop (x5_2 : Int).toNat : List (S43))).bind fun y238 => (if y235.length + y238.length < 5864062014805 then (spec_l09Sort.l0 k2 l0 (y235 ++ y238) (wrap64 (x4_1 + 1))) else (none)))) else (none))) else (none)) else (none))) else (none)) = some r := zy H hy224
      have Ny224 := aM hy224
      clear hy224
      by_cases c38 : y221.length + y224.length < 5864062014805
      rotate_left
      ·rw [if_neg c38] at H
       exact absurd H (by simp)
      rw [if_pos c38] at H
      have LMc38 := aM c38
      clear c38
      obtain ⟨y228, hy228⟩ : ∃ y_ : List (S43), y_ = (y221 ++ y224) := ⟨_, rfl⟩
      replace H : (if 0 ≤ x4_1 then (if x4_1 < (l0.length : Int) then ((some (([(⟨(rd_T43 l0 x4_1).f0, (rd_T43 l0 x4_1).f1, (rd_T43 l0 x4_1).f2⟩ : S43)] : List (S43)) : List (S43))).bind fun y232 => (if y228.length + y232.length < 5864062014805 then ((some (y228 ++ y232 : List (S43))).bind fun y235 => ((some (x3_1.drop (x5_2 : Int).toNat : List (S43))).bind fun y238 => (if y235.length + y238.length < 5864062014805 then (spec_l09Sort.l0 k2 l0 (y235 ++ y238) (wrap64 (x4_1 + 1))) else (none)))) else (none))) else (none)) else (none)) = some r := zy H hy228
      have Ny228 := aM hy228
      clear hy228
      by_cases c39 : 0 ≤ x4_1
      rotate_left
      ·rw [if_neg c39] at H
       exact absurd H (by simp)
      rw [if_pos c39] at H
      have c39b0 : decide (0 ≤ x4_1) = true := decide_eq_true c39
      clear c39
      by_cases c40 : x4_1 < (l0.length : Int)
      rotate_left
      ·rw [if_neg c40] at H
       exact absurd H (by simp)
      rw [if_pos c40] at H
      have c40b0 : decide (x4_1 < (l0.length : Int)) = true := decide_eq_true c40
      clear c40
      obtain ⟨y232, hy232⟩ : ∃ y_ : List (S43), y_ = (([(⟨(rd_T43 l0 x4_1).f0, (rd_T43 l0 x4_1).f1, (rd_T43 l0 x4_1).f2⟩ : S43)] : List (S43))) := ⟨_, rfl⟩
      replace H : (if y228.length + y232.length < 5864062014805 then ((some (y228 ++ y232 : List (S43))).bind fun y235 => ((some (x3_1.drop (x5_2 : Int).toNat : List (S43))).bind fun y238 => (if y235.length + y238.length < 5864062014805 then (spec_l09Sort.l0 k2 l0 (y235 ++ y238) (wrap64 (x4_1 + 1))) else (none)))) else (none)) = some r := zy H hy232
      have Ny232 := aM hy232
      clear hy232
      by_cases c41 : y228.length + y232.length < 5864062014805
      rotate_left
      ·rw [if_neg c41] at H
       exact absurd H (by simp)
      rw [if_pos c41] at H
      have LMc41 := aM c41
      clear c41
      obtain ⟨y235, hy235⟩ : ∃ y_ : List (S43), y_ = (y228 ++ y232) := ⟨_, rfl⟩
      replace H : ((some (x3_1.drop (x5_2 : Int).toNat : List (S43))).bind fun y238 => (if y235.length + y238.length < 5864062014805 then (spec_l09Sort.l0 k2 l0 (y235 ++ y238) (wrap64 (x4_1 + 1))) else (none))) = some r := zy H hy235
      have Ny235 := aM hy235
      clear hy235
      have c42b0 := eq_true (of_decide_eq_true za : 0 ≤ x5_2)
      have c43b0 := eq_true (of_decide_eq_true za : x5_2 ≤ (x3_1.length : Int))
      obtain ⟨y238, hy238⟩ : ∃ y_ : List (S43), y_ = (x3_1.drop (x5_2 : Int).toNat) := ⟨_, rfl⟩
      replace H : (if y235.length + y238.length < 5864062014805 then (spec_l09Sort.l0 k2 l0 (y235 ++ y238) (wrap64 (x4_1 + 1))) else (none)) = some r := zy H hy238
      have Ny238 := aM hy238
      clear hy238
      by_cases c44 : y235.length + y238.length < 5864062014805
      rotate_left
      ·rw [if_neg c44] at H
       exact absurd H (by simp)
      rw [if_pos c44] at H
      have LMc44 := aM c44
      clear c44
      obtain ⟨y242, hy242⟩ : ∃ y_ : List (S43), y_ = (y235 ++ y238) := ⟨_, rfl⟩
      replace H : (spec_l09Sort.l0 k2 l0 y242 (wrap64 (x4_1 + 1))) = some r := zy H hy242
      have Ny242 := aM hy242
      clear hy242
      have H' := aM H
      clear H
      try go_wp2
      have n0_ := aM (Kd.R_drew HO_3.out)
      have n1_ := aM (below_drew1 HB.out)
      clear HO_3
      clear HB
      have HO_3 := n0_
      have HB := n1_
      clear n0_ n1_
      obtain ⟨Ao46, co46, eo46⟩ := Kd.R_slice HO_3.out
      (first | subst eo46 | (injection eo46 with f1_ f2_ f3_; have f4_ := f1_.symm; have f5_ := f3_.symm; clear f1_ f2_ f3_; subst f4_; subst f5_))
      refine start_ (n := 15) (S := fun w' => True) (ds := []) zA16 (by kernel_rfl) rfl rfl trivial (fun hHeld => ?_); refine with_tabW spec_l09Sort.tab6 spec_l09Sort.bits6 (fun HT_ HW_ => ?_)
      generalize wr.drew = w45 at HO_3 HB hHeld ⊢
      refine zp 0 (some 13) ?_ zA17 rfl rfl (Or.inl ⟨by rfl, ?_⟩) ?_ ?_ ?_
      rotate_left
      ·intro w'
       go_simp
       with_reducible rfl
      rotate_left
      ·simp only [Act.put, xA, xB, xC, i64_w, i32_w]
       rfl
      refine zp 1 (some 14) ?_ zA18 rfl rfl (Or.inl ⟨by rfl, ?_⟩) ?_ ?_ ?_
      rotate_left
      ·intro w'
       go_simp
       with_reducible rfl
      rotate_left
      ·simp only [Act.put, xA, xB, xC, i64_w, i32_w]
       rfl
      refine zp 2 (some 15) ?_ zA19 rfl rfl (Or.inl ⟨by rfl, ?_⟩) ?_ ?_ ?_
      rotate_left
      ·intro w'
       go_simp
       with_reducible rfl
      rotate_left
      ·simp only [Act.put, xA, xB, xC, i64_w, i32_w]
       rfl
      refine zp 3 (some 16) ?_ zA20 rfl rfl (Or.inl ⟨by rfl, ?_⟩) ?_ ?_ ?_
      rotate_left
      ·intro w'
       go_simp
       with_reducible rfl
      rotate_left
      ·simp only [Act.put, xA, xB, xC, i64_w, i32_w]
       rfl
      refine zp 4 (some 17) ?_ zA21 rfl rfl (Or.inl ⟨by rfl, ?_⟩) ?_ ?_ ?_
      rotate_left
      ·intro w'
       go_simp
       with_reducible rfl
      rotate_left
      ·simp only [Act.put, xA, xB, xC, i64_w, i32_w]
       rfl
      refine zp 5 (some 18) undef zA22 rfl rfl (Or.inr ⟨by rfl, rfl⟩) ?_ ?_ ?_
      rotate_left
      ·simp only [Act.put, xA, xB, xC, i64_w, i32_w]
       rfl
      refine zp 6 (some 19) undef zA23 rfl rfl (Or.inr ⟨by rfl, rfl⟩) ?_ ?_ ?_
      rotate_left
      ·simp only [Act.put, xA, xB, xC, i64_w, i32_w]
       rfl
      refine zp 7 (some 20) undef zA24 rfl rfl (Or.inr ⟨by rfl, rfl⟩) ?_ ?_ ?_
      rotate_left
      ·simp only [Act.put, xA, xB, xC, i64_w, i32_w]
       rfl
      refine zp 8 (some 21) undef zA25 rfl rfl (Or.inr ⟨by rfl, rfl⟩) ?_ ?_ ?_
      rotate_left
      ·simp only [Act.put, xA, xB, xC, i64_w, i32_w]
       rfl
      refine zp 9 (some 22) undef zA26 rfl rfl (Or.inr ⟨by rfl, rfl⟩) ?_ ?_ ?_
      rotate_left
      ·simp only [Act.put, xA, xB, xC, i64_w, i32_w]
       rfl
      refine zp 10 (some 23) undef zA27 rfl rfl (Or.inr ⟨by rfl, rfl⟩) ?_ ?_ ?_
      rotate_left
      ·simp only [Act.put, xA, xB, xC, i64_w, i32_w]
       rfl
      refine zp 11 (some 24) undef zA28 rfl rfl (Or.inr ⟨by rfl, rfl⟩) ?_ ?_ ?_
      rotate_left
      ·simp only [Act.put, xA, xB, xC, i64_w, i32_w]
       rfl
      refine zp 12 (some 25) undef zA29 rfl rfl (Or.inr ⟨by rfl, rfl⟩) ?_ ?_ ?_
      rotate_left
      ·simp only [Act.put, xA, xB, xC, i64_w, i32_w]
       rfl
      refine zp 13 (some 26) undef zA30 rfl rfl (Or.inr ⟨by rfl, rfl⟩) ?_ ?_ ?_
      rotate_left
      ·simp only [Act.put, xA, xB, xC, i64_w, i32_w]
       rfl
      refine zp 14 (some 27) ?_ zA31 rfl rfl (Or.inl ⟨by rfl, ?_⟩) ?_ ?_ ?_
      rotate_left
      ·intro w'
       go_simp
       with_reducible rfl
      rotate_left
      ·simp only [Act.put, xA, xB, xC, i64_w, i32_w]
       rfl
      refine done_ (done_of HT_.out (by kernel_rfl)) ?_
      try go_wp2
      have n0_ := aM (Kd.R_drew HO_3.out)
      have n1_ := aM (below_drew1 HB.out)
      clear HO_3
      clear HB
      have HO_3 := n0_
      have HB := n1_
      clear n0_ n1_
      have q48 : (x5_2 : Int) ≤ ((x3_1.length : Int) : Int) := of_decide_eq_true za
      obtain ⟨i048, hi048, _, hsz48, _⟩ := info_parts info43
      have hroom48 : x3_1.length ≤ co46 := (Kd.R_reads' HO_3.out).2.1
      have hC48 : Kd.C k43 _ Ao46 x3_1.length x3_1 := (Kd.R_reads' HO_3.out).2.2
      have hcut48 := cut_to (P := Try.prog) 40 43 .i64 Try.underlying40 hi048 Ao46 x3_1.length co46 x5_2 (of_decide_eq_true za) q48 hroom48
      have hr48 := Kd.C_take (m := (x5_2 : Int).toNat) hC48 (by omega)
      have hy48 : y224.length = (x5_2 : Int).toNat := (by rw [Ny224.out, List.length_take]; omega)
      rw [← Ny224.out] at hr48
      rw [← hy48] at hcut48
      have HR227 := aM hr48
      have HC227 := aM (show y224.length ≤ co46 from by omega)
      clear hr48 hC48 hroom48 hi048 hsz48
      have KY48 := aM hy48
      clear hy48
      have KL48 := aM (show (x5_2 : Int).toNat ≤ x3_1.length from by omega)
      replace q48 := eq_true q48
      have p231 : 0 ≤ (x4_1 : Int) := of_decide_eq_true za
      have q231 : x4_1 < (l0.length : Int) := of_decide_eq_true za
      obtain ⟨ad231, e231, hx231_0, hx231_1, hx231_2⟩ := at_T43 HR0.out x4_1 p231 q231
      have hw231_2 := hx231_2
      have hw231_1 := hx231_1
      have hw231_0 := hx231_0
      cases e231
      replace hx231_0 := zk HB.out hx231_0
      replace hx231_1 := zk HB.out hx231_1
      replace hx231_2 := zk HB.out hx231_2
      replace p231 := eq_true p231
      replace q231 := eq_true q231
      have q49 : (x5_2 : Int) ≤ ((x3_1.length : Int) : Int) := of_decide_eq_true za
      obtain ⟨i049, hi049, _, hsz49, _⟩ := info_parts info43
      have hroom49 : x3_1.length ≤ co46 := (Kd.R_reads' HO_3.out).2.1
      have hC49 : Kd.C k43 _ Ao46 x3_1.length x3_1 := (Kd.R_reads' HO_3.out).2.2
      have q049 : (0 : Int) ≤ (x5_2 : Int) := of_decide_eq_true za
      have hcut49 := cut_from (P := Try.prog) 40 43 .i64 Try.underlying40 hi049 3 hsz49 Ao46 x3_1.length co46 x5_2 q049 q49
      have hr49 := Kd.C_drop (m := (x5_2 : Int).toNat) (c := co46) hC49 (by omega) hroom49
      obtain ⟨A49, hA49⟩ : ∃ A1, A1 = (if co46 = (x5_2 : Int).toNat then Ao46 else (Ao46 : Option Addr).map (·.add ((x5_2 : Int).toNat * 3))) := ⟨_, rfl⟩
      obtain ⟨c49, hc49⟩ : ∃ c1, c1 = co46 - (x5_2 : Int).toNat := ⟨_, rfl⟩
      have hy49 : y238.length = x3_1.length - (x5_2 : Int).toNat := (by rw [Ny238.out, List.length_drop] <;> omega)
      rw [show (x3_1).drop (x5_2 : Int).toNat = y238 from Ny238.out.symm] at hr49
      replace hr49 : Kd.C k43 _ A49 y238.length y238 := (by rw [hA49]; exact hr49)
      rw [← hy49, ← hA49, ← hc49] at hcut49
      have HR241 := aM hr49
      have HC241 := aM (show y238.length ≤ c49 from by rw [hy49, hc49]; exact Nat.sub_le_sub_right hroom49 _)
      clear hr49 hC49 hroom49 hi049 hsz49 hc49
      have KY49 := aM hy49
      have KA49 := aM hA49
      clear hy49 hA49
      have KL49 := aM (show (x5_2 : Int).toNat ≤ x3_1.length from by omega)
      replace q49 := eq_true q49
      refine start_ (n := 16) (S := fun w' => (spec_l09Sort.d3 w' ad231 x4_1 l0)) (ds := []) zA32 (by kernel_rfl) rfl rfl ⟨(zk HB.out hw231_0), (zk HB.out hw231_1), (zk HB.out hw231_2)⟩ (fun hHeld => ?_); refine with_tabW spec_l09Sort.tab8 spec_l09Sort.bits8 (fun HT_ HW_ => ?_)
      generalize w45.drew = w47 at HO_3 HB HR227 HR241 hx231_0 hx231_1 hx231_2 hHeld ⊢
      refine zp 1 (some 31) ?_ zA33 rfl rfl (Or.inl ⟨by rfl, ?_⟩) ?_ ?_ ?_
      rotate_left
      ·intro w'
       go_simp
       with_reducible rfl
      rotate_left
      ·simp only [Act.put, xA, xB, xC, i64_w, i32_w]
       rfl
      refine zp 2 (some 32) ?_ zA34 rfl rfl (Or.inl ⟨by rfl, ?_⟩) ?_ ?_ ?_
      rotate_left
      ·intro w'
       go_simp
       with_reducible rfl
      rotate_left
      ·simp only [Act.put, xA, xB, xC, i64_w, i32_w]
       rfl
      refine zp 3 (some 33) ?_ zA35 rfl rfl (Or.inl ⟨by rfl, ?_⟩) ?_ ?_ ?_
      rotate_left
      ·intro w'
       go_simp
       with_reducible rfl
      rotate_left
      ·simp only [Act.put, xA, xB, xC, i64_w, i32_w]
       rfl
      refine zp 5 (some 35) ?_ zA36 rfl rfl (Or.inl ⟨by rfl, ?_⟩) ?_ ?_ ?_
      rotate_left
      ·intro w'
       go_simp
       with_reducible rfl
      rotate_left
      ·simp only [Act.put, xA, xB, xC, i64_w, i32_w]
       rfl
      refine zp 6 (some 36) ?_ zA37 rfl rfl (Or.inl ⟨by rfl, ?_⟩) ?_ ?_ ?_
      rotate_left
      ·intro w'
       go_simp
       with_reducible rfl
      rotate_left
      ·simp only [Act.put, xA, xB, xC, i64_w, i32_w]
       rfl
      refine zp 7 (some 37) ?_ zA38 rfl rfl (Or.inl ⟨by rfl, ?_⟩) ?_ ?_ ?_
      rotate_left
      ·intro w'
       go_simp
       with_reducible rfl
      rotate_left
      ·simp only [Act.put, xA, xB, xC, i64_w, i32_w]
       rfl
      refine zp 11 (some 41) ?_ zA39 rfl rfl (Or.inl ⟨by rfl, ?_⟩) ?_ ?_ ?_
      rotate_left
      ·intro w'
       go_simp
       with_reducible rfl
      rotate_left
      ·simp only [Act.put, xA, xB, xC, i64_w, i32_w]
       rfl
      refine zp 12 (some 42) ?_ zA40 rfl rfl (Or.inl ⟨by rfl, ?_⟩) ?_ ?_ ?_
      rotate_left
      ·intro w'
       go_simp
       with_reducible rfl
      rotate_left
      ·simp only [Act.put, xA, xB, xC, i64_w, i32_w]
       rfl
      refine zp 13 (some 43) ?_ zA41 rfl rfl (Or.inl ⟨by rfl, ?_⟩) ?_ ?_ ?_
      rotate_left
      ·intro w'
       go_simp
       with_reducible rfl
      rotate_left
      ·simp only [Act.put, xA, xB, xC, i64_w, i32_w]
       rfl
      refine zu 8 (some 38) ?_ zA42 rfl rfl (Or.inl ⟨by rfl, ?_⟩) hHeld ?_ ?_ ?_
      rotate_left
      ·rintro w' ⟨s0, s1, s2⟩
       go_simp
       with_reducible rfl
      rotate_left
      ·simp only [Act.put, xA, xB, xC, i64_w, i32_w]
       rfl
      refine join_ (σ := Value × Value × Value) 3 zA43 (fun s_ => [(30, s_.1), (34, s_.2.1), (39, s_.2.2)]) (fun s_ w' => ((spec_l09Sort.d3 w' ad231 x4_1 l0)) ∧ (Kd.R k43 43 w' w.heap.size (fun k_ => some k_ ≠ (s_.2.2 : Value).ownBlock ∧ some k_ ≠ (.slice Ao46 x3_1.length co46 : Value).ownBlock) s_.2.1 y228) ∧ (Kd.R k43 43 w' w.heap.size (fun k_ => some k_ ≠ (s_.2.1 : Value).ownBlock ∧ some k_ ≠ (.slice Ao46 x3_1.length co46 : Value).ownBlock) s_.2.2 y232) ∧ (Kd.R k43 43 w' w.heap.size (fun k_ => some k_ ≠ (s_.2.1 : Value).ownBlock ∧ some k_ ≠ (s_.2.2 : Value).ownBlock) (.slice Ao46 x3_1.length co46) x3_1) ∧ (Below w.heap.size w w')) ?_ ?_
      rotate_left
      ·intro hCont
       refine two_ (i := 0) (j := 9) (Ni := some 30) (Nj := some 39) zA44 zA45 rfl rfl rfl rfl (two_of HT_.out (by kernel_rfl)) (by decide) (by decide) (fun K hK => ?_) (fun K hK => ?_)
       ·skip
        refine Kd.R_lit_step k43 _ 43 ?hg (N := 30) ?hd (xs := ([] : List (S43))) (inner := []) (ok := fun _ => True) (okp := fun _ => True) ?hr ?hp (fun _ hk => hk) trivial (Below.refl _ _) (Nat.le_refl _) (by simp) ?_; (case hd => rfl); (case hg => rfl); (case hr => first | (go_simp; done) | (go_simp; rfl)); (case hp => exact (Reps.none _ _))
        intro v222 w50 ho51 hb hg_ hnew_
        clear hg_ hnew_
        (first | rw [← Ny221.out] at ho51 | (simp only [Int.reduceToNat] at ho51; rw [← Ny221.out] at ho51))
        have n0_ := aM (Kd.R_elder' (mR_ HO_3.out) (Kd.R_base ho51) hb)
        have n1_ := aM (Kd.R_lower (Kd.R_new' ho51 (Kd.R_lt (mR_ HO_3.out))) (below_size zb))
        have n2_ := aM (Kd.C_below (mQ_ HR227.out) hb)
        have n3_ := aM (Kd.C_below (mQ_ HR241.out) hb)
        have n4_ := aM (below_step zb hb)
        clear HO_3
        clear HR227
        clear HR241
        clear HB
        have HO_3 := n0_
        have HO223 := n1_
        have HR227 := n2_
        have HR241 := n3_
        have HB := n4_
        clear n0_ n1_ n2_ n3_ n4_
        clear hb ho51
        refine hK.out _ _ ⟨(zk HB.out hw231_0), (zk HB.out hw231_1), (zk HB.out hw231_2)⟩ (fun hHeld => ?_)
        clear hK K
        refine norm_ (a' := ?_) ?_ ?_
        rotate_left
        ·show Act.put _ (some 30) _ = _
         simp only [Act.put, xA, xB, xC, i64_w, i32_w]
         rfl
        refine two_ (i := 4) (j := 9) (Ni := some 34) (Nj := some 39) zA46 zA47 rfl rfl rfl rfl (two_of HT_.out (by kernel_rfl)) (by decide) (by decide) (fun K hK => ?_) (fun K hK => ?_)
        ·skip
         refine Kd.R_append_rows_step k43 (w0 := w) w.heap.size (by rfl) (.tmp 30) (.tmp 33) 40 43 (.agg #[(.int .i64 0), (.int .i64 0), (.int .i64 0)]) 24 rfl Try.underlying40 info43 rfl (by decide) (by omega) v222 y221 y224 _ _ _ (fun k_ => some k_ ≠ (.slice Ao46 x3_1.length co46 : Value).ownBlock) (fun _ => False) rfl rfl ?aO ?aR (fun _ _ h => h) (fun _ h => h.elim) ?aF ?aB ?aS ?aL ?_
         (case aR => repeat (first | exact (mQ_ HR227.out) | (with_reducible refine Kd.C_alloc ?_ _) | (with_reducible refine Kd.C_drewN ?_ _) | (with_reducible refine Kd.C_drew ?_)))
         (case aB => exact zb)
         (case aF => exact (fun k_ hk => Kd.fresh' (Kd.R_lt (mR_ HO_3.out)) k_ hk))
         (case aO => exact (zd0 HO223.out))
         (case aS => exact (below_size zb))
         (case aL => have := LMc38.out; omega)
         intro v229 w52 ho hb hg hat
         rw [← Ny228.out] at ho
         have n0_ := aM (Kd.R_after (ok := (fun _ => True)) (mR_ HO_3.out) hg hat)
         have n1_ := aM (hb)
         have n2_ := aM ((show Kd.C k43 w52 Ao46 y224.length y224 from by rw [Ny224.out]; exact Kd.C_take (m := (x5_2 : Int).toNat) ((Kd.R_reads' (Kd.R_after (ok := (fun _ => True)) (mR_ HO_3.out) hg hat)).2.2) KL48.out))
         have n3_ := aM ((show Kd.C k43 w52 A49 y238.length y238 from by rw [Ny238.out, KA49.out]; exact Kd.C_drop (m := (x5_2 : Int).toNat) (c := co46) ((Kd.R_reads' (Kd.R_after (ok := (fun _ => True)) (mR_ HO_3.out) hg hat)).2.2) KL49.out ((Kd.R_reads' (Kd.R_after (ok := (fun _ => True)) (mR_ HO_3.out) hg hat)).2.1)))
         have n4_ := aM (ho)
         clear HO_3
         clear HB
         clear HR227
         clear HR241
         clear HO223
         have HO_3 := n0_
         have HB := n1_
         have HR227 := n2_
         have HR241 := n3_
         have HO230 := n4_
         clear n0_ n1_ n2_ n3_ n4_
         clear ho hb hg hat
         refine hK.out _ _ ⟨(zk HB.out hw231_0), (zk HB.out hw231_1), (zk HB.out hw231_2)⟩ (fun hHeld => ?_)
         clear hK K
         refine norm_ (a' := ?_) ?_ ?_
         rotate_left
         ·show Act.put _ (some 34) _ = _
          simp only [Act.put, xA, xB, xC, i64_w, i32_w]
          rfl
         refine one_ (i := 9) (N := some 39) zA43 rfl rfl (one_of HT_.out (by kernel_rfl)) (by decide) (fun K hK => ?_)
         refine Kd.R_lit_step k43 _ 43 ?hg (N := 39) ?hd (xs := ([(⟨(rd_T43 l0 x4_1).f0, (rd_T43 l0 x4_1).f1, (rd_T43 l0 x4_1).f2⟩ : S43)] : List (S43))) (inner := [.int .i64 ((rd_T43 l0 x4_1).f0), .int .i64 ((rd_T43 l0 x4_1).f1), .int .i64 ((rd_T43 l0 x4_1).f2)]) (ok := fun _ => True) (okp := fun _ => True) ?hr ?hp (fun _ hk => hk) trivial (Below.refl _ _) (Nat.le_refl _) (by simp) ?_; (case hd => rfl); (case hg => rfl); (case hr => first | (go_simp; done) | (go_simp; rfl)); (case hp => exact (Reps.c3 (show Kd.M k43 _ _ _ (⟨(rd_T43 l0 x4_1).f0, (rd_T43 l0 x4_1).f1, (rd_T43 l0 x4_1).f2⟩ : S43) [.int .i64 ((rd_T43 l0 x4_1).f0), .int .i64 ((rd_T43 l0 x4_1).f1), .int .i64 ((rd_T43 l0 x4_1).f2)] from (k43_mkM _ _ _ (⟨(rd_T43 l0 x4_1).f0, (rd_T43 l0 x4_1).f1, (rd_T43 l0 x4_1).f2⟩ : S43) )) (Reps.none _ _)))
         intro v233 w53 ho54 hb hg_ hnew_
         clear hg_ hnew_
         (first | rw [← Ny232.out] at ho54 | (simp only [Int.reduceToNat] at ho54; rw [← Ny232.out] at ho54))
         have n0_ := aM (Kd.R_elder' (mR_ HO_3.out) (Kd.R_base ho54) hb)
         have n1_ := aM (Kd.R_elder' (mR_ HO230.out) (Kd.R_base ho54) hb)
         have n2_ := aM (Kd.R_lower (Kd.R_new' (Kd.R_new' ho54 (Kd.R_lt (mR_ HO_3.out))) (Kd.R_lt (mR_ HO230.out))) (below_size zb))
         have n3_ := aM (Kd.C_below (mQ_ HR227.out) hb)
         have n4_ := aM (Kd.C_below (mQ_ HR241.out) hb)
         have n5_ := aM (below_step zb hb)
         clear HO_3
         clear HO230
         clear HR227
         clear HR241
         clear HB
         have HO_3 := n0_
         have HO230 := n1_
         have HO234 := n2_
         have HR227 := n3_
         have HR241 := n4_
         have HB := n5_
         clear n0_ n1_ n2_ n3_ n4_ n5_
         clear hb ho54
         refine hK.out _ _ ⟨(zk HB.out hw231_0), (zk HB.out hw231_1), (zk HB.out hw231_2)⟩ (fun hHeld => ?_)
         clear hK K
         refine norm_ (a' := ?_) ?_ ?_
         rotate_left
         ·show Act.put _ (some 39) _ = _
          simp only [Act.put, xA, xB, xC, i64_w, i32_w]
          rfl
         exact norm_ (by simp only [putAll, Act.put, xA, xB, xC]) (hCont (v222, v229, v233) _ ⟨hHeld, (zd2 HO230.out), (zd3 HO234.out), (zd4 HO_3.out), zb⟩)
        ·skip
         refine Kd.R_lit_step k43 _ 43 ?hg (N := 39) ?hd (xs := ([(⟨(rd_T43 l0 x4_1).f0, (rd_T43 l0 x4_1).f1, (rd_T43 l0 x4_1).f2⟩ : S43)] : List (S43))) (inner := [.int .i64 ((rd_T43 l0 x4_1).f0), .int .i64 ((rd_T43 l0 x4_1).f1), .int .i64 ((rd_T43 l0 x4_1).f2)]) (ok := fun _ => True) (okp := fun _ => True) ?hr ?hp (fun _ hk => hk) trivial (Below.refl _ _) (Nat.le_refl _) (by simp) ?_; (case hd => rfl); (case hg => rfl); (case hr => first | (go_simp; done) | (go_simp; rfl)); (case hp => exact (Reps.c3 (show Kd.M k43 _ _ _ (⟨(rd_T43 l0 x4_1).f0, (rd_T43 l0 x4_1).f1, (rd_T43 l0 x4_1).f2⟩ : S43) [.int .i64 ((rd_T43 l0 x4_1).f0), .int .i64 ((rd_T43 l0 x4_1).f1), .int .i64 ((rd_T43 l0 x4_1).f2)] from (k43_mkM _ _ _ (⟨(rd_T43 l0 x4_1).f0, (rd_T43 l0 x4_1).f1, (rd_T43 l0 x4_1).f2⟩ : S43) )) (Reps.none _ _)))
         intro v233 w52 ho53 hb hg_ hnew_
         clear hg_ hnew_
         (first | rw [← Ny232.out] at ho53 | (simp only [Int.reduceToNat] at ho53; rw [← Ny232.out] at ho53))
         have n0_ := aM (Kd.R_elder' (mR_ HO_3.out) (Kd.R_base ho53) hb)
         have n1_ := aM (Kd.R_elder' (mR_ HO223.out) (Kd.R_base ho53) hb)
         have n2_ := aM (Kd.R_lower (Kd.R_new' (Kd.R_new' ho53 (Kd.R_lt (mR_ HO_3.out))) (Kd.R_lt (mR_ HO223.out))) (below_size zb))
         have n3_ := aM (Kd.C_below (mQ_ HR227.out) hb)
         have n4_ := aM (Kd.C_below (mQ_ HR241.out) hb)
         have n5_ := aM (below_step zb hb)
         clear HO_3
         clear HO223
         clear HR227
         clear HR241
         clear HB
         have HO_3 := n0_
         have HO223 := n1_
         have HO234 := n2_
         have HR227 := n3_
         have HR241 := n4_
         have HB := n5_
         clear n0_ n1_ n2_ n3_ n4_ n5_
         clear hb ho53
         refine hK.out _ _ ⟨(zk HB.out hw231_0), (zk HB.out hw231_1), (zk HB.out hw231_2)⟩ (fun hHeld => ?_)
         clear hK K
         refine norm_ (a' := ?_) ?_ ?_
         rotate_left
         ·show Act.put _ (some 39) _ = _
          simp only [Act.put, xA, xB, xC, i64_w, i32_w]
          rfl
         refine one_ (i := 4) (N := some 34) zA43 rfl rfl (one_of HT_.out (by kernel_rfl)) (by decide) (fun K hK => ?_)
         refine Kd.R_append_rows_step k43 (w0 := w) w.heap.size (by rfl) (.tmp 30) (.tmp 33) 40 43 (.agg #[(.int .i64 0), (.int .i64 0), (.int .i64 0)]) 24 rfl Try.underlying40 info43 rfl (by decide) (by omega) v222 y221 y224 _ _ _ (fun k_ => some k_ ≠ (.slice Ao46 x3_1.length co46 : Value).ownBlock ∧ some k_ ≠ (v233 : Value).ownBlock) (fun _ => False) rfl rfl ?aO ?aR (fun _ _ h => h) (fun _ h => h.elim) ?aF ?aB ?aS ?aL ?_
         (case aR => repeat (first | exact (mQ_ HR227.out) | (with_reducible refine Kd.C_alloc ?_ _) | (with_reducible refine Kd.C_drewN ?_ _) | (with_reducible refine Kd.C_drew ?_)))
         (case aB => exact zb)
         (case aF => exact (fun k_ hk => ⟨Kd.fresh' (Kd.R_lt (mR_ HO_3.out)) k_ hk, Kd.fresh' (Kd.R_lt (mR_ HO234.out)) k_ hk⟩))
         (case aO => exact (zd4 HO223.out))
         (case aS => exact (below_size zb))
         (case aL => have := LMc38.out; omega)
         intro v229 w54 ho hb hg hat
         rw [← Ny228.out] at ho
         have n0_ := aM (Kd.R_after (ok := (fun k_ => some k_ ≠ (v233 : Value).ownBlock)) (zd3 HO_3.out) hg hat)
         have n1_ := aM (Kd.R_after (ok := (fun k_ => some k_ ≠ (.slice Ao46 x3_1.length co46 : Value).ownBlock)) (zd4 HO234.out) hg hat)
         have n2_ := aM (hb)
         have n3_ := aM ((show Kd.C k43 w54 Ao46 y224.length y224 from by rw [Ny224.out]; exact Kd.C_take (m := (x5_2 : Int).toNat) ((Kd.R_reads' (Kd.R_after (ok := (fun k_ => some k_ ≠ (v233 : Value).ownBlock)) (zd3 HO_3.out) hg hat)).2.2) KL48.out))
         have n4_ := aM ((show Kd.C k43 w54 A49 y238.length y238 from by rw [Ny238.out, KA49.out]; exact Kd.C_drop (m := (x5_2 : Int).toNat) (c := co46) ((Kd.R_reads' (Kd.R_after (ok := (fun k_ => some k_ ≠ (v233 : Value).ownBlock)) (zd3 HO_3.out) hg hat)).2.2) KL49.out ((Kd.R_reads' (Kd.R_after (ok := (fun k_ => some k_ ≠ (v233 : Value).ownBlock)) (zd3 HO_3.out) hg hat)).2.1)))
         have n5_ := aM (ho)
         clear HO_3
         clear HO234
         clear HB
         clear HR227
         clear HR241
         clear HO223
         have HO_3 := n0_
         have HO234 := n1_
         have HB := n2_
         have HR227 := n3_
         have HR241 := n4_
         have HO230 := n5_
         clear n0_ n1_ n2_ n3_ n4_ n5_
         clear ho hb hg hat
         refine hK.out _ _ ⟨(zk HB.out hw231_0), (zk HB.out hw231_1), (zk HB.out hw231_2)⟩ (fun hHeld => ?_)
         clear hK K
         refine norm_ (a' := ?_) ?_ ?_
         rotate_left
         ·show Act.put _ (some 34) _ = _
          simp only [Act.put, xA, xB, xC, i64_w, i32_w]
          rfl
         exact norm_ (by simp only [putAll, Act.put, xA, xB, xC]) (hCont (v222, v229, v233) _ ⟨hHeld, (zd2 HO230.out), (zd2 HO234.out), (zd2 HO_3.out), zb⟩)
       ·skip
        refine Kd.R_lit_step k43 _ 43 ?hg (N := 39) ?hd (xs := ([(⟨(rd_T43 l0 x4_1).f0, (rd_T43 l0 x4_1).f1, (rd_T43 l0 x4_1).f2⟩ : S43)] : List (S43))) (inner := [.int .i64 ((rd_T43 l0 x4_1).f0), .int .i64 ((rd_T43 l0 x4_1).f1), .int .i64 ((rd_T43 l0 x4_1).f2)]) (ok := fun _ => True) (okp := fun _ => True) ?hr ?hp (fun _ hk => hk) trivial (Below.refl _ _) (Nat.le_refl _) (by simp) ?_; (case hd => rfl); (case hg => rfl); (case hr => first | (go_simp; done) | (go_simp; rfl)); (case hp => exact (Reps.c3 (show Kd.M k43 _ _ _ (⟨(rd_T43 l0 x4_1).f0, (rd_T43 l0 x4_1).f1, (rd_T43 l0 x4_1).f2⟩ : S43) [.int .i64 ((rd_T43 l0 x4_1).f0), .int .i64 ((rd_T43 l0 x4_1).f1), .int .i64 ((rd_T43 l0 x4_1).f2)] from (k43_mkM _ _ _ (⟨(rd_T43 l0 x4_1).f0, (rd_T43 l0 x4_1).f1, (rd_T43 l0 x4_1).f2⟩ : S43) )) (Reps.none _ _)))
        intro v233 w50 ho51 hb hg_ hnew_
        clear hg_ hnew_
        (first | rw [← Ny232.out] at ho51 | (simp only [Int.reduceToNat] at ho51; rw [← Ny232.out] at ho51))
        have n0_ := aM (Kd.R_elder' (mR_ HO_3.out) (Kd.R_base ho51) hb)
        have n1_ := aM (Kd.R_lower (Kd.R_new' ho51 (Kd.R_lt (mR_ HO_3.out))) (below_size zb))
        have n2_ := aM (Kd.C_below (mQ_ HR227.out) hb)
        have n3_ := aM (Kd.C_below (mQ_ HR241.out) hb)
        have n4_ := aM (below_step zb hb)
        clear HO_3
        clear HR227
        clear HR241
        clear HB
        have HO_3 := n0_
        have HO234 := n1_
        have HR227 := n2_
        have HR241 := n3_
        have HB := n4_
        clear n0_ n1_ n2_ n3_ n4_
        clear hb ho51
        refine hK.out _ _ ⟨(zk HB.out hw231_0), (zk HB.out hw231_1), (zk HB.out hw231_2)⟩ (fun hHeld => ?_)
        clear hK K
        refine norm_ (a' := ?_) ?_ ?_
        rotate_left
        ·show Act.put _ (some 39) _ = _
         simp only [Act.put, xA, xB, xC, i64_w, i32_w]
         rfl
        refine one_ (i := 0) (N := some 30) zA47 rfl rfl (one_of HT_.out (by kernel_rfl)) (by decide) (fun K hK => ?_)
        refine Kd.R_lit_step k43 _ 43 ?hg (N := 30) ?hd (xs := ([] : List (S43))) (inner := []) (ok := fun _ => True) (okp := fun _ => True) ?hr ?hp (fun _ hk => hk) trivial (Below.refl _ _) (Nat.le_refl _) (by simp) ?_; (case hd => rfl); (case hg => rfl); (case hr => first | (go_simp; done) | (go_simp; rfl)); (case hp => exact (Reps.none _ _))
        intro v222 w52 ho53 hb hg_ hnew_
        clear hg_ hnew_
        (first | rw [← Ny221.out] at ho53 | (simp only [Int.reduceToNat] at ho53; rw [← Ny221.out] at ho53))
        have n0_ := aM (Kd.R_elder' (mR_ HO_3.out) (Kd.R_base ho53) hb)
        have n1_ := aM (Kd.R_elder' (mR_ HO234.out) (Kd.R_base ho53) hb)
        have n2_ := aM (Kd.R_lower (Kd.R_new' (Kd.R_new' ho53 (Kd.R_lt (mR_ HO_3.out))) (Kd.R_lt (mR_ HO234.out))) (below_size zb))
        have n3_ := aM (Kd.C_below (mQ_ HR227.out) hb)
        have n4_ := aM (Kd.C_below (mQ_ HR241.out) hb)
        have n5_ := aM (below_step zb hb)
        clear HO_3
        clear HO234
        clear HR227
        clear HR241
        clear HB
        have HO_3 := n0_
        have HO234 := n1_
        have HO223 := n2_
        have HR227 := n3_
        have HR241 := n4_
        have HB := n5_
        clear n0_ n1_ n2_ n3_ n4_ n5_
        clear hb ho53
        refine hK.out _ _ ⟨(zk HB.out hw231_0), (zk HB.out hw231_1), (zk HB.out hw231_2)⟩ (fun hHeld => ?_)
        clear hK K
        refine norm_ (a' := ?_) ?_ ?_
        rotate_left
        ·show Act.put _ (some 30) _ = _
         simp only [Act.put, xA, xB, xC, i64_w, i32_w]
         rfl
        refine one_ (i := 4) (N := some 34) zA43 rfl rfl (one_of HT_.out (by kernel_rfl)) (by decide) (fun K hK => ?_)
        refine Kd.R_append_rows_step k43 (w0 := w) w.heap.size (by rfl) (.tmp 30) (.tmp 33) 40 43 (.agg #[(.int .i64 0), (.int .i64 0), (.int .i64 0)]) 24 rfl Try.underlying40 info43 rfl (by decide) (by omega) v222 y221 y224 _ _ _ (fun k_ => some k_ ≠ (.slice Ao46 x3_1.length co46 : Value).ownBlock ∧ some k_ ≠ (v233 : Value).ownBlock) (fun _ => False) rfl rfl ?aO ?aR (fun _ _ h => h) (fun _ h => h.elim) ?aF ?aB ?aS ?aL ?_
        (case aR => repeat (first | exact (mQ_ HR227.out) | (with_reducible refine Kd.C_alloc ?_ _) | (with_reducible refine Kd.C_drewN ?_ _) | (with_reducible refine Kd.C_drew ?_)))
        (case aB => exact zb)
        (case aF => exact (fun k_ hk => ⟨Kd.fresh' (Kd.R_lt (mR_ HO_3.out)) k_ hk, Kd.fresh' (Kd.R_lt (mR_ HO234.out)) k_ hk⟩))
        (case aO => exact (zd4 HO223.out))
        (case aS => exact (below_size zb))
        (case aL => have := LMc38.out; omega)
        intro v229 w54 ho hb hg hat
        rw [← Ny228.out] at ho
        have n0_ := aM (Kd.R_after (ok := (fun k_ => some k_ ≠ (v233 : Value).ownBlock)) (zd4 HO_3.out) hg hat)
        have n1_ := aM (Kd.R_after (ok := (fun k_ => some k_ ≠ (.slice Ao46 x3_1.length co46 : Value).ownBlock)) (zd4 HO234.out) hg hat)
        have n2_ := aM (hb)
        have n3_ := aM ((show Kd.C k43 w54 Ao46 y224.length y224 from by rw [Ny224.out]; exact Kd.C_take (m := (x5_2 : Int).toNat) ((Kd.R_reads' (Kd.R_after (ok := (fun k_ => some k_ ≠ (v233 : Value).ownBlock)) (zd4 HO_3.out) hg hat)).2.2) KL48.out))
        have n4_ := aM ((show Kd.C k43 w54 A49 y238.length y238 from by rw [Ny238.out, KA49.out]; exact Kd.C_drop (m := (x5_2 : Int).toNat) (c := co46) ((Kd.R_reads' (Kd.R_after (ok := (fun k_ => some k_ ≠ (v233 : Value).ownBlock)) (zd4 HO_3.out) hg hat)).2.2) KL49.out ((Kd.R_reads' (Kd.R_after (ok := (fun k_ => some k_ ≠ (v233 : Value).ownBlock)) (zd4 HO_3.out) hg hat)).2.1)))
        have n5_ := aM (ho)
        clear HO_3
        clear HO234
        clear HB
        clear HR227
        clear HR241
        clear HO223
        have HO_3 := n0_
        have HO234 := n1_
        have HB := n2_
        have HR227 := n3_
        have HR241 := n4_
        have HO230 := n5_
        clear n0_ n1_ n2_ n3_ n4_ n5_
        clear ho hb hg hat
        refine hK.out _ _ ⟨(zk HB.out hw231_0), (zk HB.out hw231_1), (zk HB.out hw231_2)⟩ (fun hHeld => ?_)
        clear hK K
        refine norm_ (a' := ?_) ?_ ?_
        rotate_left
        ·show Act.put _ (some 34) _ = _
         simp only [Act.put, xA, xB, xC, i64_w, i32_w]
         rfl
        exact norm_ (by simp only [putAll, Act.put, xA, xB, xC]) (hCont (v222, v229, v233) _ ⟨hHeld, (zd2 HO230.out), (zd2 HO234.out), (zd2 HO_3.out), zb⟩)
      rintro ⟨v222, v229, v233⟩ w55 ⟨hS_, h0_, h1_, h2_, h3_⟩
      have n0_ : Aside0 (Kd.R k43 43 w55 w.heap.size (fun k_ => some k_ ≠ (v233 : Value).ownBlock ∧ some k_ ≠ (.slice Ao46 x3_1.length co46 : Value).ownBlock) v229 y228) := ⟨h0_⟩
      have n1_ : Aside0 (Kd.R k43 43 w55 w.heap.size (fun k_ => some k_ ≠ (v229 : Value).ownBlock ∧ some k_ ≠ (.slice Ao46 x3_1.length co46 : Value).ownBlock) v233 y232) := ⟨h1_⟩
      have n2_ : Aside0 (Kd.R k43 43 w55 w.heap.size (fun k_ => some k_ ≠ (v229 : Value).ownBlock ∧ some k_ ≠ (v233 : Value).ownBlock) (.slice Ao46 x3_1.length co46) x3_1) := ⟨h2_⟩
      have n3_ : Aside0 (Below w.heap.size w w55) := ⟨h3_⟩
      clear HO_3
      clear HB
      clear h0_ h1_ h2_ h3_
      have HO230 := n0_
      have HO234 := n1_
      have HO_3 := n2_
      have HB := n3_
      clear n0_ n1_ n2_ n3_
      have hHeld : (spec_l09Sort.d3 w55 ad231 x4_1 l0) := hS_
      (try clear HR227)
      have HR227 := aM (show Kd.C k43 _ Ao46 y224.length y224 from by rw [Ny224.out]; exact Kd.C_take (m := (x5_2 : Int).toNat) ((Kd.R_reads' HO_3.out).2.2) KL48.out)
      (try clear HR241)
      have HR241 := aM (show Kd.C k43 _ A49 y238.length y238 from by rw [Ny238.out, KA49.out]; exact Kd.C_drop (m := (x5_2 : Int).toNat) (c := co46) ((Kd.R_reads' HO_3.out).2.2) KL49.out ((Kd.R_reads' HO_3.out).2.1))
      obtain ⟨Ao57, co57, eo57⟩ := Kd.R_slice HO234.out
      (first | subst eo57 | (injection eo57 with f1_ f2_ f3_; have f4_ := f1_.symm; have f5_ := f3_.symm; clear f1_ f2_ f3_; subst f4_; subst f5_))
      refine norm_ (a' := ?_) ?_ ?_
      rotate_left
      ·simp only [putAll, Act.put, xA, xB, xC]
       rfl
      refine one_ (i := 10) (N := some 40) zA48 rfl rfl (one_of HT_.out (by kernel_rfl)) (by decide) (fun K hK => ?_)
      refine Kd.R_append_rows_step k43 (w0 := w) w.heap.size (by rfl) (.tmp 34) (.tmp 39) 40 43 (.agg #[(.int .i64 0), (.int .i64 0), (.int .i64 0)]) 24 rfl Try.underlying40 info43 rfl (by decide) (by omega) v229 y228 y232 _ _ _ (fun k_ => some k_ ≠ (.slice Ao46 x3_1.length co46 : Value).ownBlock ∧ some k_ ≠ (.slice Ao57 y232.length co57 : Value).ownBlock) (fun _ => False) rfl rfl ?aO ?aR (fun _ _ h => h) (fun _ h => h.elim) ?aF ?aB ?aS ?aL ?_
      (case aR => exact zc HO234.out)
      (case aB => exact zb)
      (case aF => exact (fun k_ hk => ⟨Kd.fresh' (Kd.R_lt (mR_ HO_3.out)) k_ hk, Kd.fresh' (Kd.R_lt (mR_ HO234.out)) k_ hk⟩))
      (case aO => exact (zd2 HO230.out))
      (case aS => exact (below_size zb))
      (case aL => have := LMc41.out; omega)
      intro v236 w56 ho hb hg hat
      rw [← Ny235.out] at ho
      have n0_ := aM (Kd.R_after (ok := (fun k_ => some k_ ≠ (.slice Ao57 y232.length co57 : Value).ownBlock)) (zd2 HO_3.out) hg hat)
      have n1_ := aM (Kd.R_after (ok := (fun k_ => some k_ ≠ (.slice Ao46 x3_1.length co46 : Value).ownBlock)) (zd2 HO234.out) hg hat)
      have n2_ := aM (hb)
      have n3_ := aM ((show Kd.C k43 w56 Ao46 y224.length y224 from by rw [Ny224.out]; exact Kd.C_take (m := (x5_2 : Int).toNat) ((Kd.R_reads' (Kd.R_after (ok := (fun k_ => some k_ ≠ (.slice Ao57 y232.length co57 : Value).ownBlock)) (zd2 HO_3.out) hg hat)).2.2) KL48.out))
      have n4_ := aM ((show Kd.C k43 w56 A49 y238.length y238 from by rw [Ny238.out, KA49.out]; exact Kd.C_drop (m := (x5_2 : Int).toNat) (c := co46) ((Kd.R_reads' (Kd.R_after (ok := (fun k_ => some k_ ≠ (.slice Ao57 y232.length co57 : Value).ownBlock)) (zd2 HO_3.out) hg hat)).2.2) KL49.out ((Kd.R_reads' (Kd.R_after (ok := (fun k_ => some k_ ≠ (.slice Ao57 y232.length co57 : Value).ownBlock)) (zd2 HO_3.out) hg hat)).2.1)))
      have n5_ := aM (ho)
      clear HO_3
      clear HO234
      clear HB
      clear HR227
      clear HR241
      clear HO230
      have HO_3 := n0_
      have HO234 := n1_
      have HB := n2_
      have HR227 := n3_
      have HR241 := n4_
      have HO237 := n5_
      clear n0_ n1_ n2_ n3_ n4_ n5_
      clear ho hb hg hat
      refine hK.out _ _ ⟨(zk HB.out hw231_0), (zk HB.out hw231_1), (zk HB.out hw231_2)⟩ (fun hHeld => ?_)
      clear hK K
      refine norm_ (a' := ?_) ?_ ?_
      rotate_left
      ·show Act.put _ (some 40) _ = _
       simp only [Act.put, xA, xB, xC, i64_w, i32_w]
       rfl
      refine one_ (i := 14) (N := some 44) zA49 rfl rfl (one_of HT_.out (by kernel_rfl)) (by decide) (fun K hK => ?_)
      refine Kd.R_append_rows_step k43 (w0 := w) w.heap.size (by rfl) (.tmp 40) (.tmp 43) 40 43 (.agg #[(.int .i64 0), (.int .i64 0), (.int .i64 0)]) 24 rfl Try.underlying40 info43 rfl (by decide) (by omega) v236 y235 y238 _ _ _ (fun k_ => some k_ ≠ (.slice Ao46 x3_1.length co46 : Value).ownBlock ∧ some k_ ≠ (.slice Ao57 y232.length co57 : Value).ownBlock) (fun _ => False) rfl rfl ?aO ?aR (fun _ _ h => h) (fun _ h => h.elim) ?aF ?aB ?aS ?aL ?_
      (case aR => repeat (first | exact (mQ_ HR241.out) | (with_reducible refine Kd.C_alloc ?_ _) | (with_reducible refine Kd.C_drewN ?_ _) | (with_reducible refine Kd.C_drew ?_)))
      (case aB => exact zb)
      (case aF => exact (fun k_ hk => ⟨Kd.fresh' (Kd.R_lt (mR_ HO_3.out)) k_ hk, Kd.fresh' (Kd.R_lt (mR_ HO234.out)) k_ hk⟩))
      (case aO => exact (mR_ HO237.out))
      (case aS => exact (below_size zb))
      (case aL => have := LMc44.out; omega)
      intro v243 w58 ho hb hg hat
      rw [← Ny242.out] at ho
      have n0_ := aM (Kd.R_after (ok := (fun k_ => some k_ ≠ (.slice Ao57 y232.length co57 : Value).ownBlock)) (mR_ HO_3.out) hg hat)
      have n1_ := aM (Kd.R_after (ok := (fun k_ => some k_ ≠ (.slice Ao46 x3_1.length co46 : Value).ownBlock)) (mR_ HO234.out) hg hat)
      have n2_ := aM (hb)
      have n3_ := aM ((show Kd.C k43 w58 Ao46 y224.length y224 from by rw [Ny224.out]; exact Kd.C_take (m := (x5_2 : Int).toNat) ((Kd.R_reads' (Kd.R_after (ok := (fun k_ => some k_ ≠ (.slice Ao57 y232.length co57 : Value).ownBlock)) (mR_ HO_3.out) hg hat)).2.2) KL48.out))
      have n4_ := aM ((show Kd.C k43 w58 A49 y238.length y238 from by rw [Ny238.out, KA49.out]; exact Kd.C_drop (m := (x5_2 : Int).toNat) (c := co46) ((Kd.R_reads' (Kd.R_after (ok := (fun k_ => some k_ ≠ (.slice Ao57 y232.length co57 : Value).ownBlock)) (mR_ HO_3.out) hg hat)).2.2) KL49.out ((Kd.R_reads' (Kd.R_after (ok := (fun k_ => some k_ ≠ (.slice Ao57 y232.length co57 : Value).ownBlock)) (mR_ HO_3.out) hg hat)).2.1)))
      have n5_ := aM (ho)
      clear HO_3
      clear HO234
      clear HB
      clear HR227
      clear HR241
      clear HO237
      have HO_3 := n0_
      have HO234 := n1_
      have HB := n2_
      have HR227 := n3_
      have HR241 := n4_
      have HO244 := n5_
      clear n0_ n1_ n2_ n3_ n4_ n5_
      clear ho hb hg hat
      refine hK.out _ _ ⟨(zk HB.out hw231_0), (zk HB.out hw231_1), (zk HB.out hw231_2)⟩ (fun hHeld => ?_)
      clear hK K
      refine norm_ (a' := ?_) ?_ ?_
      rotate_left
      ·show Act.put _ (some 44) _ = _
       simp only [Act.put, xA, xB, xC, i64_w, i32_w]
       rfl
      refine zp 15 (some 3) ?_ zA50 rfl rfl (Or.inl ⟨by rfl, ?_⟩) ?_ ?_ ?_
      rotate_left
      ·intro w'
       go_simp
       with_reducible rfl
      rotate_left
      ·simp only [Act.put, xA, xB, xC, i64_w, i32_w]
       rfl
      refine done_ (done_of HT_.out (by kernel_rfl)) ?_
      try go_wp2
      go_roundg k2
      case measure => have := HK1.out; have := HK2.out; omega
      case rel => exact ⟨(y242), (wrap64 (x4_1 + 1)), zr, H', ⟨by have := HK1.out; have := HK2.out; omega⟩, ⟨zd1 HO244.out⟩, ⟨zb⟩⟩
     rw [if_pos c5] at H
     have c5b0 : decide (x5_2 < (x3_1.length : Int)) = true := decide_eq_true c5
     clear c5
     by_cases c6 : 0 ≤ x5_2
     rotate_left
     ·rw [if_neg c6] at H
      exact absurd H (by simp)
     rw [if_pos c6] at H
     have c6b0 : decide (0 ≤ x5_2) = true := decide_eq_true c6
     clear c6
     by_cases c7 : 0 ≤ x4_1
     rotate_left
     ·rw [if_neg c7] at H
      exact absurd H (by simp)
     rw [if_pos c7] at H
     have c7b0 : decide (0 ≤ x4_1) = true := decide_eq_true c7
     clear c7
     by_cases c8 : x4_1 < (l0.length : Int)
     rotate_left
     ·rw [if_neg c8] at H
      exact absurd H (by simp)
     rw [if_pos c8] at H
     have c8b0 : decide (x4_1 < (l0.length : Int)) = true := decide_eq_true c8
     clear c8
     replace H := Option.bind_eq_some_iff.mp H
     obtain ⟨t196, A90, H⟩ := H
     replace H : (if t196 = true then (spec_l09Sort.l1 k2 l0 x3_1 x4_1 (wrap64 (x5_2 + 1))) else ((some (([] : List (S43)) : List (S43))).bind fun y197 => (if x5_2 ≤ (x3_1.length : Int) then ((some (x3_1.take (x5_2 : Int).toNat : List (S43))).bind fun y200 => (if y197.length + y200.length < 5864062014805 then ((some (y197 ++ y200 : List (S43))).bind fun y204 => ((some (([(⟨(rd_T43 l0 x4_1).f0, (rd_T43 l0 x4_1).f1, (rd_T43 l0 x4_1).f2⟩ : S43)] : List (S43)) : List (S43))).bind fun y208 => (if y204.length + y208.length < 5864062014805 then ((some (y204 ++ y208 : List (S43))).bind fun y211 => ((some (x3_1.drop (x5_2 : Int).toNat : List (S43))).bind fun y214 => (if y211.length + y214.length < 5864062014805 then (spec_l09Sort.l0 k2 l0 (y211 ++ y214) (wrap64 (x4_1 + 1))) else (none)))) else (none)))) else (none))) else (none)))) = some r := H
     have A9 := aM A90
     clear A90
     by_cases c10 : t196 = true
     ·subst c10
      have H1 : (spec_l09Sort.l1 k2 l0 x3_1 x4_1 (wrap64 (x5_2 + 1))) = some r := by rw [if_pos rfl] at H; exact H
      clear H
      have H := H1
      clear H1
      have H' := aM H
      clear H
      try go_wp2
      have n0_ := aM (Kd.R_drew HO_3.out)
      have n1_ := aM (below_drew1 HB.out)
      clear HO_3
      clear HB
      have HO_3 := n0_
      have HB := n1_
      clear n0_ n1_
      obtain ⟨Ao12, co12, eo12⟩ := Kd.R_slice HO_3.out
      (first | subst eo12 | (injection eo12 with f1_ f2_ f3_; have f4_ := f1_.symm; have f5_ := f3_.symm; clear f1_ f2_ f3_; subst f4_; subst f5_))
      have p194 : 0 ≤ (x5_2 : Int) := of_decide_eq_true za
      have q194 : x5_2 < (x3_1.length : Int) := of_decide_eq_true za
      obtain ⟨ad194, e194, hx194_0, hx194_1, hx194_2⟩ := at_T43 (Kd.R_reads' HO_3.out).2.2 x5_2 p194 q194
      cases e194
      replace p194 := eq_true p194
      replace q194 := eq_true q194
      have p195 : 0 ≤ (x4_1 : Int) := of_decide_eq_true za
      have q195 : x4_1 < (l0.length : Int) := of_decide_eq_true za
      obtain ⟨ad195, e195, hx195_0, hx195_1, hx195_2⟩ := at_T43 HR0.out x4_1 p195 q195
      have hw195_2 := hx195_2
      have hw195_1 := hx195_1
      have hw195_0 := hx195_0
      cases e195
      replace hx195_0 := zk HB.out hx195_0
      replace hx195_1 := zk HB.out hx195_1
      replace hx195_2 := zk HB.out hx195_2
      replace p195 := eq_true p195
      replace q195 := eq_true q195
      refine start_ (n := 15) (S := fun w' => (spec_l09Sort.c3 w' ad194 x5_2 x3_1 ((spec_l09Sort.d3 w' ad195 x4_1 l0)))) (ds := []) zA16 (by kernel_rfl) rfl rfl ⟨hx194_0, hx194_1, hx194_2, (zk HB.out hw195_0), (zk HB.out hw195_1), (zk HB.out hw195_2)⟩ (fun hHeld => ?_); refine with_tabW spec_l09Sort.tab6 spec_l09Sort.bits6 (fun HT_ HW_ => ?_)
      generalize wr.drew = w11 at HO_3 HB hx194_0 hx194_1 hx194_2 hx195_0 hx195_1 hx195_2 hHeld ⊢
      refine zp 0 (some 13) ?_ zA17 rfl rfl (Or.inl ⟨by rfl, ?_⟩) ?_ ?_ ?_
      rotate_left
      ·intro w'
       go_simp
       with_reducible rfl
      rotate_left
      ·simp only [Act.put, xA, xB, xC, i64_w, i32_w]
       rfl
      refine zp 1 (some 14) ?_ zA18 rfl rfl (Or.inl ⟨by rfl, ?_⟩) ?_ ?_ ?_
      rotate_left
      ·intro w'
       go_simp
       with_reducible rfl
      rotate_left
      ·simp only [Act.put, xA, xB, xC, i64_w, i32_w]
       rfl
      refine zp 2 (some 15) ?_ zA19 rfl rfl (Or.inl ⟨by rfl, ?_⟩) ?_ ?_ ?_
      rotate_left
      ·intro w'
       go_simp
       with_reducible rfl
      rotate_left
      ·simp only [Act.put, xA, xB, xC, i64_w, i32_w]
       rfl
      refine zp 3 (some 16) ?_ zA20 rfl rfl (Or.inl ⟨by rfl, ?_⟩) ?_ ?_ ?_
      rotate_left
      ·intro w'
       go_simp
       with_reducible rfl
      rotate_left
      ·simp only [Act.put, xA, xB, xC, i64_w, i32_w]
       rfl
      refine zp 4 (some 17) ?_ zA21 rfl rfl (Or.inl ⟨by rfl, ?_⟩) ?_ ?_ ?_
      rotate_left
      ·intro w'
       go_simp
       with_reducible rfl
      rotate_left
      ·simp only [Act.put, xA, xB, xC, i64_w, i32_w]
       rfl
      refine zp 5 (some 18) ?_ zA22 rfl rfl (Or.inl ⟨by rfl, ?_⟩) ?_ ?_ ?_
      rotate_left
      ·intro w'
       go_simp
       with_reducible rfl
      rotate_left
      ·simp only [Act.put, xA, xB, xC, i64_w, i32_w]
       rfl
      refine zp 6 (some 19) ?_ zA23 rfl rfl (Or.inl ⟨by rfl, ?_⟩) ?_ ?_ ?_
      rotate_left
      ·intro w'
       go_simp
       with_reducible rfl
      rotate_left
      ·simp only [Act.put, xA, xB, xC, i64_w, i32_w]
       rfl
      refine zp 7 (some 20) ?_ zA24 rfl rfl (Or.inl ⟨by rfl, ?_⟩) ?_ ?_ ?_
      rotate_left
      ·intro w'
       go_simp
       with_reducible rfl
      rotate_left
      ·simp only [Act.put, xA, xB, xC, i64_w, i32_w]
       rfl
      refine zp 9 (some 22) ?_ zA51 rfl rfl (Or.inl ⟨by rfl, ?_⟩) ?_ ?_ ?_
      rotate_left
      ·intro w'
       go_simp
       with_reducible rfl
      rotate_left
      ·simp only [Act.put, xA, xB, xC, i64_w, i32_w]
       rfl
      refine zp 10 (some 23) ?_ zA52 rfl rfl (Or.inl ⟨by rfl, ?_⟩) ?_ ?_ ?_
      rotate_left
      ·intro w'
       go_simp
       with_reducible rfl
      rotate_left
      ·simp only [Act.put, xA, xB, xC, i64_w, i32_w]
       rfl
      refine zp 11 (some 24) ?_ zA53 rfl rfl (Or.inl ⟨by rfl, ?_⟩) ?_ ?_ ?_
      rotate_left
      ·intro w'
       go_simp
       with_reducible rfl
      rotate_left
      ·simp only [Act.put, xA, xB, xC, i64_w, i32_w]
       rfl
      refine zu 8 (some 21) ?_ zA28 rfl rfl (Or.inl ⟨by rfl, ?_⟩) hHeld ?_ ?_ ?_
      rotate_left
      ·rintro w' ⟨s0, s1, s2, s3, s4, s5⟩
       go_simp
       with_reducible rfl
      rotate_left
      ·simp only [Act.put, xA, xB, xC, i64_w, i32_w]
       rfl
      refine zu 12 (some 25) ?_ zA29 rfl rfl (Or.inl ⟨by rfl, ?_⟩) hHeld ?_ ?_ ?_
      rotate_left
      ·rintro w' ⟨s0, s1, s2, s3, s4, s5⟩
       go_simp
       with_reducible rfl
      rotate_left
      ·simp only [Act.put, xA, xB, xC, i64_w, i32_w]
       rfl
      refine one_ (i := 13) (N := some 26) zA30 rfl rfl (one_of HT_.out (by kernel_rfl)) (by decide) (fun K hK => ?_)
      refine goes_ Try.func50 (by kernel_rfl) rfl #[.agg #[.int .i64 ((rd_T43 x3_1 x5_2).f0), .int .i64 ((rd_T43 x3_1 x5_2).f1), .int .i64 ((rd_T43 x3_1 x5_2).f2)], .agg #[.int .i64 ((rd_T43 l0 x4_1).f0), .int .i64 ((rd_T43 l0 x4_1).f1), .int .i64 ((rd_T43 l0 x4_1).f2)]] (by rfl) rfl rfl zm ?_
      with_reducible refine (spec_l09Less.calls ((rd_T43 x3_1 x5_2).f0) ((rd_T43 x3_1 x5_2).f1) ((rd_T43 x3_1 x5_2).f2) ((rd_T43 l0 x4_1).f0) ((rd_T43 l0 x4_1).f1) ((rd_T43 l0 x4_1).f2) true _ A9.out).mono ?_
      rintro e w13 ⟨rfl, hb⟩
      have HS0_ := zk hb (hHeld.1)
      have HS1_ := zk hb (hHeld.2.1)
      have HS2_ := zk hb (hHeld.2.2.1)
      refine ⟨_, rfl, ?_⟩
      have n0_ := aM (Kd.R_below (mR_ HO_3.out) hb)
      have n1_ := aM (below_step zb hb)
      clear HO_3
      clear HB
      have HO_3 := n0_
      have HB := n1_
      clear n0_ n1_
      (try clear hb)
      (try clear hb2)
      (try clear hk)
      (try clear hi)
      refine hK.out _ _ ⟨HS0_, HS1_, HS2_, (zk HB.out hw195_0), (zk HB.out hw195_1), (zk HB.out hw195_2)⟩ (fun hHeld => ?_)
      clear hK K
      refine norm_ (a' := ?_) ?_ ?_
      rotate_left
      ·show Act.put _ (some 26) _ = _
       simp only [Act.put, xA, xB, xC, i64_w, i32_w]
       rfl
      refine zp 14 (some 27) ?_ zA31 rfl rfl (Or.inl ⟨by rfl, ?_⟩) ?_ ?_ ?_
      rotate_left
      ·intro w'
       go_simp
       with_reducible rfl
      rotate_left
      ·simp only [Act.put, xA, xB, xC, i64_w, i32_w]
       rfl
      refine done_ (done_of HT_.out (by kernel_rfl)) ?_
      try go_wp2
      go_roundg k2
      case measure => have := HK1.out; have := HK2.out; omega
      case rel => exact ⟨(wrap64 (x5_2 + 1)), zr, H', ⟨by have := HK1.out; have := HK2.out; omega⟩, ⟨mR_ HO_3.out⟩, ⟨zb⟩⟩
     replace c10 := Bool.eq_false_iff.mpr c10
     subst c10
     have H1 : ((some (([] : List (S43)) : List (S43))).bind fun y197 => (if x5_2 ≤ (x3_1.length : Int) then ((some (x3_1.take (x5_2 : Int).toNat : List (S43))).bind fun y200 => (if y197.length + y200.length < 5864062014805 then ((some (y197 ++ y200 : List (S43))).bind fun y204 => ((some (([(⟨(rd_T43 l0 x4_1).f0, (rd_T43 l0 x4_1).f1, (rd_T43 l0 x4_1).f2⟩ : S43)] : List (S43)) : List (S43))).bind fun y208 => (if y204.length + y208.length < 5864062014805 then ((some (y204 ++ y208 : List (S43))).bind fun y211 => ((some (x3_1.drop (x5_2 : Int).toNat : List (S43))).bind fun y214 => (if y211.length + y214.length < 5864062014805 then (spec_l09Sort.l0 k2 l0 (y211 ++ y214) (wrap64 (x4_1 + 1))) else (none)))) else (none)))) else (none))) else (none))) = some r := by rw [if_neg (show ¬ (false = true) by decide)] at H; exact H
     clear H
     have H := H1
     clear H1
     obtain ⟨y197, hy197⟩ : ∃ y_ : List (S43), y_ = (([] : List (S43))) := ⟨_, rfl⟩
     replace H : (if x5_2 ≤ (x3_1.length : Int) then ((some (x3_1.take (x5_2 : Int).toNat : List (S43))).bind fun y200 => (if y197.length + y200.length < 5864062014805 then ((some (y197 ++ y200 : List (S43))).bind fun y204 => ((some (([(⟨(rd_T43 l0 x4_1).f0, (rd_T43 l0 x4_1).f1, (rd_T43 l0 x4_1).f2⟩ : S43)] : List (S43)) : List (S43))).bind fun y208 => (if y204.length + y208.length < 5864062014805 then ((some (y204 ++ y208 : List (S43))).bind fun y211 => ((some (x3_1.drop (x5_2 : Int).toNat : List (S43))).bind fun y214 => (if y211.length + y214.length < 5864062014805 then (spec_l09Sort.l0 k2 l0 (y211 ++ y214) (wrap64 (x4_1 + 1))) else (none)))) else (none)))) else (none))) else (none)) = some r := zy H hy197
     have Ny197 := aM hy197
     clear hy197
     have c14b0 := eq_true (of_decide_eq_true za : 0 ≤ x5_2)
     by_cases c15 : x5_2 ≤ (x3_1.length : Int)
     rotate_left
     ·rw [if_neg c15] at H
      exact absurd H (by simp)
     rw [if_pos c15] at H
     have c15b0 := eq_true c15
     have c15b1 : decide (x5_2 ≤ (x3_1.length : Int)) = true := decide_eq_true c15
     clear c15
     obtain ⟨y200, hy200⟩ : ∃ y_ : List (S43), y_ = (x3_1.take (x5_2 : Int).toNat) := ⟨_, rfl⟩
     replace H : (if y197.length + y200.length < 5864062014805 then ((some (y197 ++ y200 : List (S43))).bind fun y204 => ((some (([(⟨(rd_T43 l0 x4_1).f0, (rd_T43 l0 x4_1).f1, (rd_T43 l0 x4_1).f2⟩ : S43)] : List (S43)) : List (S43))).bind fun y208 => (if y204.length + y208.length < 5864062014805 then ((some (y204 ++ y208 : List (S43))).bind fun y211 => ((some (x3_1.drop (x5_2 : Int).toNat : List (S43))).bind fun y214 => (if y211.length + y214.length < 5864062014805 then (spec_l09Sort.l0 k2 l0 (y211 ++ y214) (wrap64 (x4_1 + 1))) else (none)))) else (none)))) else (none)) = some r := zy H hy200
     have Ny200 := aM hy200
     clear hy200
     by_cases c16 : y197.length + y200.length < 5864062014805
     rotate_left
     ·rw [if_neg c16] at H
      exact absurd H (by simp)
     rw [if_pos c16] at H
     have LMc16 := aM c16
     clear c16
     obtain ⟨y204, hy204⟩ : ∃ y_ : List (S43), y_ = (y197 ++ y200) := ⟨_, rfl⟩
     replace H : ((some (([(⟨(rd_T43 l0 x4_1).f0, (rd_T43 l0 x4_1).f1, (rd_T43 l0 x4_1).f2⟩ : S43)] : List (S43)) : List (S43))).bind fun y208 => (if y204.length + y208.length < 5864062014805 then ((some (y204 ++ y208 : List (S43))).bind fun y211 => ((some (x3_1.drop (x5_2 : Int).toNat : List (S43))).bind fun y214 => (if y211.length + y214.length < 5864062014805 then (spec_l09Sort.l0 k2 l0 (y211 ++ y214) (wrap64 (x4_1 + 1))) else (none)))) else (none))) = some r := zy H hy204
     have Ny204 := aM hy204
     clear hy204
     obtain ⟨y208, hy208⟩ : ∃ y_ : List (S43), y_ = (([(⟨(rd_T43 l0 x4_1).f0, (rd_T43 l0 x4_1).f1, (rd_T43 l0 x4_1).f2⟩ : S43)] : List (S43))) := ⟨_, rfl⟩
     replace H : (if y204.length + y208.length < 5864062014805 then ((some (y204 ++ y208 : List (S43))).bind fun y211 => ((some (x3_1.drop (x5_2 : Int).toNat : List (S43))).bind fun y214 => (if y211.length + y214.length < 5864062014805 then (spec_l09Sort.l0 k2 l0 (y211 ++ y214) (wrap64 (x4_1 + 1))) else (none)))) else (none)) = some r := zy H hy208
     have Ny208 := aM hy208
     clear hy208
     by_cases c17 : y204.length + y208.length < 5864062014805
     rotate_left
     ·rw [if_neg c17] at H
      exact absurd H (by simp)
     rw [if_pos c17] at H
     have LMc17 := aM c17
     clear c17
     obtain ⟨y211, hy211⟩ : ∃ y_ : List (S43), y_ = (y204 ++ y208) := ⟨_, rfl⟩
     replace H : ((some (x3_1.drop (x5_2 : Int).toNat : List (S43))).bind fun y214 => (if y211.length + y214.length < 5864062014805 then (spec_l09Sort.l0 k2 l0 (y211 ++ y214) (wrap64 (x4_1 + 1))) else (none))) = some r := zy H hy211
     have Ny211 := aM hy211
     clear hy211
     have c18b0 := eq_true (of_decide_eq_true za : 0 ≤ x5_2)
     have c19b0 := eq_true (of_decide_eq_true za : x5_2 ≤ (x3_1.length : Int))
     obtain ⟨y214, hy214⟩ : ∃ y_ : List (S43), y_ = (x3_1.drop (x5_2 : Int).toNat) := ⟨_, rfl⟩
     replace H : (if y211.length + y214.length < 5864062014805 then (spec_l09Sort.l0 k2 l0 (y211 ++ y214) (wrap64 (x4_1 + 1))) else (none)) = some r := zy H hy214
     have Ny214 := aM hy214
     clear hy214
     by_cases c20 : y211.length + y214.length < 5864062014805
     rotate_left
     ·rw [if_neg c20] at H
      exact absurd H (by simp)
     rw [if_pos c20] at H
     have LMc20 := aM c20
     clear c20
     obtain ⟨y218, hy218⟩ : ∃ y_ : List (S43), y_ = (y211 ++ y214) := ⟨_, rfl⟩
     replace H : (spec_l09Sort.l0 k2 l0 y218 (wrap64 (x4_1 + 1))) = some r := zy H hy218
     have Ny218 := aM hy218
     clear hy218
     have H' := aM H
     clear H
     try go_wp2
     have n0_ := aM (Kd.R_drew HO_3.out)
     have n1_ := aM (below_drew1 HB.out)
     clear HO_3
     clear HB
     have HO_3 := n0_
     have HB := n1_
     clear n0_ n1_
     obtain ⟨Ao22, co22, eo22⟩ := Kd.R_slice HO_3.out
     (first | subst eo22 | (injection eo22 with f1_ f2_ f3_; have f4_ := f1_.symm; have f5_ := f3_.symm; clear f1_ f2_ f3_; subst f4_; subst f5_))
     have p194 : 0 ≤ (x5_2 : Int) := of_decide_eq_true za
     have q194 : x5_2 < (x3_1.length : Int) := of_decide_eq_true za
     obtain ⟨ad194, e194, hx194_0, hx194_1, hx194_2⟩ := at_T43 (Kd.R_reads' HO_3.out).2.2 x5_2 p194 q194
     cases e194
     replace p194 := eq_true p194
     replace q194 := eq_true q194
     have p195 : 0 ≤ (x4_1 : Int) := of_decide_eq_true za
     have q195 : x4_1 < (l0.length : Int) := of_decide_eq_true za
     obtain ⟨ad195, e195, hx195_0, hx195_1, hx195_2⟩ := at_T43 HR0.out x4_1 p195 q195
     have hw195_2 := hx195_2
     have hw195_1 := hx195_1
     have hw195_0 := hx195_0
     cases e195
     replace hx195_0 := zk HB.out hx195_0
     replace hx195_1 := zk HB.out hx195_1
     replace hx195_2 := zk HB.out hx195_2
     replace p195 := eq_true p195
     replace q195 := eq_true q195
     refine start_ (n := 15) (S := fun w' => (spec_l09Sort.c3 w' ad194 x5_2 x3_1 ((spec_l09Sort.d3 w' ad195 x4_1 l0)))) (ds := []) zA16 (by kernel_rfl) rfl rfl ⟨hx194_0, hx194_1, hx194_2, (zk HB.out hw195_0), (zk HB.out hw195_1), (zk HB.out hw195_2)⟩ (fun hHeld => ?_); refine with_tabW spec_l09Sort.tab6 spec_l09Sort.bits6 (fun HT_ HW_ => ?_)
     generalize wr.drew = w21 at HO_3 HB hx194_0 hx194_1 hx194_2 hx195_0 hx195_1 hx195_2 hHeld ⊢
     refine zp 0 (some 13) ?_ zA17 rfl rfl (Or.inl ⟨by rfl, ?_⟩) ?_ ?_ ?_
     rotate_left
     ·intro w'
      go_simp
      with_reducible rfl
     rotate_left
     ·simp only [Act.put, xA, xB, xC, i64_w, i32_w]
      rfl
     refine zp 1 (some 14) ?_ zA18 rfl rfl (Or.inl ⟨by rfl, ?_⟩) ?_ ?_ ?_
     rotate_left
     ·intro w'
      go_simp
      with_reducible rfl
     rotate_left
     ·simp only [Act.put, xA, xB, xC, i64_w, i32_w]
      rfl
     refine zp 2 (some 15) ?_ zA19 rfl rfl (Or.inl ⟨by rfl, ?_⟩) ?_ ?_ ?_
     rotate_left
     ·intro w'
      go_simp
      with_reducible rfl
     rotate_left
     ·simp only [Act.put, xA, xB, xC, i64_w, i32_w]
      rfl
     refine zp 3 (some 16) ?_ zA20 rfl rfl (Or.inl ⟨by rfl, ?_⟩) ?_ ?_ ?_
     rotate_left
     ·intro w'
      go_simp
      with_reducible rfl
     rotate_left
     ·simp only [Act.put, xA, xB, xC, i64_w, i32_w]
      rfl
     refine zp 4 (some 17) ?_ zA21 rfl rfl (Or.inl ⟨by rfl, ?_⟩) ?_ ?_ ?_
     rotate_left
     ·intro w'
      go_simp
      with_reducible rfl
     rotate_left
     ·simp only [Act.put, xA, xB, xC, i64_w, i32_w]
      rfl
     refine zp 5 (some 18) ?_ zA22 rfl rfl (Or.inl ⟨by rfl, ?_⟩) ?_ ?_ ?_
     rotate_left
     ·intro w'
      go_simp
      with_reducible rfl
     rotate_left
     ·simp only [Act.put, xA, xB, xC, i64_w, i32_w]
      rfl
     refine zp 6 (some 19) ?_ zA23 rfl rfl (Or.inl ⟨by rfl, ?_⟩) ?_ ?_ ?_
     rotate_left
     ·intro w'
      go_simp
      with_reducible rfl
     rotate_left
     ·simp only [Act.put, xA, xB, xC, i64_w, i32_w]
      rfl
     refine zp 7 (some 20) ?_ zA24 rfl rfl (Or.inl ⟨by rfl, ?_⟩) ?_ ?_ ?_
     rotate_left
     ·intro w'
      go_simp
      with_reducible rfl
     rotate_left
     ·simp only [Act.put, xA, xB, xC, i64_w, i32_w]
      rfl
     refine zp 9 (some 22) ?_ zA51 rfl rfl (Or.inl ⟨by rfl, ?_⟩) ?_ ?_ ?_
     rotate_left
     ·intro w'
      go_simp
      with_reducible rfl
     rotate_left
     ·simp only [Act.put, xA, xB, xC, i64_w, i32_w]
      rfl
     refine zp 10 (some 23) ?_ zA52 rfl rfl (Or.inl ⟨by rfl, ?_⟩) ?_ ?_ ?_
     rotate_left
     ·intro w'
      go_simp
      with_reducible rfl
     rotate_left
     ·simp only [Act.put, xA, xB, xC, i64_w, i32_w]
      rfl
     refine zp 11 (some 24) ?_ zA53 rfl rfl (Or.inl ⟨by rfl, ?_⟩) ?_ ?_ ?_
     rotate_left
     ·intro w'
      go_simp
      with_reducible rfl
     rotate_left
     ·simp only [Act.put, xA, xB, xC, i64_w, i32_w]
      rfl
     refine zu 8 (some 21) ?_ zA28 rfl rfl (Or.inl ⟨by rfl, ?_⟩) hHeld ?_ ?_ ?_
     rotate_left
     ·rintro w' ⟨s0, s1, s2, s3, s4, s5⟩
      go_simp
      with_reducible rfl
     rotate_left
     ·simp only [Act.put, xA, xB, xC, i64_w, i32_w]
      rfl
     refine zu 12 (some 25) ?_ zA29 rfl rfl (Or.inl ⟨by rfl, ?_⟩) hHeld ?_ ?_ ?_
     rotate_left
     ·rintro w' ⟨s0, s1, s2, s3, s4, s5⟩
      go_simp
      with_reducible rfl
     rotate_left
     ·simp only [Act.put, xA, xB, xC, i64_w, i32_w]
      rfl
     refine one_ (i := 13) (N := some 26) zA30 rfl rfl (one_of HT_.out (by kernel_rfl)) (by decide) (fun K hK => ?_)
     refine goes_ Try.func50 (by kernel_rfl) rfl #[.agg #[.int .i64 ((rd_T43 x3_1 x5_2).f0), .int .i64 ((rd_T43 x3_1 x5_2).f1), .int .i64 ((rd_T43 x3_1 x5_2).f2)], .agg #[.int .i64 ((rd_T43 l0 x4_1).f0), .int .i64 ((rd_T43 l0 x4_1).f1), .int .i64 ((rd_T43 l0 x4_1).f2)]] (by rfl) rfl rfl zm ?_
     with_reducible refine (spec_l09Less.calls ((rd_T43 x3_1 x5_2).f0) ((rd_T43 x3_1 x5_2).f1) ((rd_T43 x3_1 x5_2).f2) ((rd_T43 l0 x4_1).f0) ((rd_T43 l0 x4_1).f1) ((rd_T43 l0 x4_1).f2) false _ A9.out).mono ?_
     rintro e w23 ⟨rfl, hb⟩
     have HS0_ := zk hb (hHeld.1)
     have HS1_ := zk hb (hHeld.2.1)
     have HS2_ := zk hb (hHeld.2.2.1)
     refine ⟨_, rfl, ?_⟩
     have n0_ := aM (Kd.R_below (mR_ HO_3.out) hb)
     have n1_ := aM (below_step zb hb)
     clear HO_3
     clear HB
     have HO_3 := n0_
     have HB := n1_
     clear n0_ n1_
     (try clear hb)
     (try clear hb2)
     (try clear hk)
     (try clear hi)
     refine hK.out _ _ ⟨HS0_, HS1_, HS2_, (zk HB.out hw195_0), (zk HB.out hw195_1), (zk HB.out hw195_2)⟩ (fun hHeld => ?_)
     clear hK K
     refine norm_ (a' := ?_) ?_ ?_
     rotate_left
     ·show Act.put _ (some 26) _ = _
      simp only [Act.put, xA, xB, xC, i64_w, i32_w]
      rfl
     refine zp 14 (some 27) ?_ zA31 rfl rfl (Or.inl ⟨by rfl, ?_⟩) ?_ ?_ ?_
     rotate_left
     ·intro w'
      go_simp
      with_reducible rfl
     rotate_left
     ·simp only [Act.put, xA, xB, xC, i64_w, i32_w]
      rfl
     refine done_ (done_of HT_.out (by kernel_rfl)) ?_
     try go_wp2
     have n0_ := aM (Kd.R_drew HO_3.out)
     have n1_ := aM (below_drew1 HB.out)
     clear HO_3
     clear HB
     have HO_3 := n0_
     have HB := n1_
     clear n0_ n1_
     have q25 : (x5_2 : Int) ≤ ((x3_1.length : Int) : Int) := of_decide_eq_true za
     obtain ⟨i025, hi025, _, hsz25, _⟩ := info_parts info43
     have hroom25 : x3_1.length ≤ co22 := (Kd.R_reads' HO_3.out).2.1
     have hC25 : Kd.C k43 _ (some ad194) x3_1.length x3_1 := (Kd.R_reads' HO_3.out).2.2
     have hcut25 := cut_to (P := Try.prog) 40 43 .i64 Try.underlying40 hi025 (some ad194) x3_1.length co22 x5_2 (of_decide_eq_true za) q25 hroom25
     have hr25 := Kd.C_take (m := (x5_2 : Int).toNat) hC25 (by omega)
     have hy25 : y200.length = (x5_2 : Int).toNat := (by rw [Ny200.out, List.length_take]; omega)
     rw [← Ny200.out] at hr25
     rw [← hy25] at hcut25
     have HR203 := aM hr25
     have HC203 := aM (show y200.length ≤ co22 from by omega)
     clear hr25 hC25 hroom25 hi025 hsz25
     have KY25 := aM hy25
     clear hy25
     have KL25 := aM (show (x5_2 : Int).toNat ≤ x3_1.length from by omega)
     replace q25 := eq_true q25
     have p207 : 0 ≤ (x4_1 : Int) := of_decide_eq_true za
     have q207 : x4_1 < (l0.length : Int) := of_decide_eq_true za
     obtain ⟨ad207, e207, hx207_0, hx207_1, hx207_2⟩ := at_T43 HR0.out x4_1 p207 q207
     have hw207_2 := hx207_2
     have hw207_1 := hx207_1
     have hw207_0 := hx207_0
     obtain rfl : ad195 = ad207 := (by injection e207)
     replace hx207_0 := zk HB.out hx207_0
     replace hx207_1 := zk HB.out hx207_1
     replace hx207_2 := zk HB.out hx207_2
     replace p207 := eq_true p207
     replace q207 := eq_true q207
     have q26 : (x5_2 : Int) ≤ ((x3_1.length : Int) : Int) := of_decide_eq_true za
     obtain ⟨i026, hi026, _, hsz26, _⟩ := info_parts info43
     have hroom26 : x3_1.length ≤ co22 := (Kd.R_reads' HO_3.out).2.1
     have hC26 : Kd.C k43 _ (some ad194) x3_1.length x3_1 := (Kd.R_reads' HO_3.out).2.2
     have q026 : (0 : Int) ≤ (x5_2 : Int) := of_decide_eq_true za
     have hcut26 := cut_from (P := Try.prog) 40 43 .i64 Try.underlying40 hi026 3 hsz26 (some ad194) x3_1.length co22 x5_2 q026 q26
     have hr26 := Kd.C_drop (m := (x5_2 : Int).toNat) (c := co22) hC26 (by omega) hroom26
     obtain ⟨A26, hA26⟩ : ∃ A1, A1 = (if co22 = (x5_2 : Int).toNat then (some ad194) else ((some ad194) : Option Addr).map (·.add ((x5_2 : Int).toNat * 3))) := ⟨_, rfl⟩
     obtain ⟨c26, hc26⟩ : ∃ c1, c1 = co22 - (x5_2 : Int).toNat := ⟨_, rfl⟩
     have hy26 : y214.length = x3_1.length - (x5_2 : Int).toNat := (by rw [Ny214.out, List.length_drop] <;> omega)
     rw [show (x3_1).drop (x5_2 : Int).toNat = y214 from Ny214.out.symm] at hr26
     replace hr26 : Kd.C k43 _ A26 y214.length y214 := (by rw [hA26]; exact hr26)
     rw [← hy26, ← hA26, ← hc26] at hcut26
     have HR217 := aM hr26
     have HC217 := aM (show y214.length ≤ c26 from by rw [hy26, hc26]; exact Nat.sub_le_sub_right hroom26 _)
     clear hr26 hC26 hroom26 hi026 hsz26 hc26
     have KY26 := aM hy26
     have KA26 := aM hA26
     clear hy26 hA26
     have KL26 := aM (show (x5_2 : Int).toNat ≤ x3_1.length from by omega)
     replace q26 := eq_true q26
     refine start_ (n := 16) (S := fun w' => (spec_l09Sort.d3 w' ad195 x4_1 l0)) (ds := []) zA32 (by kernel_rfl) rfl rfl ⟨(zk HB.out hw207_0), (zk HB.out hw207_1), (zk HB.out hw207_2)⟩ (fun hHeld => ?_); refine with_tabW spec_l09Sort.tab8 spec_l09Sort.bits8 (fun HT_ HW_ => ?_)
     generalize w23.drew = w24 at HO_3 HB HR203 HR217 hx207_0 hx207_1 hx207_2 hHeld ⊢
     refine zp 1 (some 31) ?_ zA33 rfl rfl (Or.inl ⟨by rfl, ?_⟩) ?_ ?_ ?_
     rotate_left
     ·intro w'
      go_simp
      with_reducible rfl
     rotate_left
     ·simp only [Act.put, xA, xB, xC, i64_w, i32_w]
      rfl
     refine zp 2 (some 32) ?_ zA34 rfl rfl (Or.inl ⟨by rfl, ?_⟩) ?_ ?_ ?_
     rotate_left
     ·intro w'
      go_simp
      with_reducible rfl
     rotate_left
     ·simp only [Act.put, xA, xB, xC, i64_w, i32_w]
      rfl
     refine zp 3 (some 33) ?_ zA35 rfl rfl (Or.inl ⟨by rfl, ?_⟩) ?_ ?_ ?_
     rotate_left
     ·intro w'
      go_simp
      with_reducible rfl
     rotate_left
     ·simp only [Act.put, xA, xB, xC, i64_w, i32_w]
      rfl
     refine zp 5 (some 35) ?_ zA36 rfl rfl (Or.inl ⟨by rfl, ?_⟩) ?_ ?_ ?_
     rotate_left
     ·intro w'
      go_simp
      with_reducible rfl
     rotate_left
     ·simp only [Act.put, xA, xB, xC, i64_w, i32_w]
      rfl
     refine zp 6 (some 36) ?_ zA37 rfl rfl (Or.inl ⟨by rfl, ?_⟩) ?_ ?_ ?_
     rotate_left
     ·intro w'
      go_simp
      with_reducible rfl
     rotate_left
     ·simp only [Act.put, xA, xB, xC, i64_w, i32_w]
      rfl
     refine zp 7 (some 37) ?_ zA38 rfl rfl (Or.inl ⟨by rfl, ?_⟩) ?_ ?_ ?_
     rotate_left
     ·intro w'
      go_simp
      with_reducible rfl
     rotate_left
     ·simp only [Act.put, xA, xB, xC, i64_w, i32_w]
      rfl
     refine zp 11 (some 41) ?_ zA39 rfl rfl (Or.inl ⟨by rfl, ?_⟩) ?_ ?_ ?_
     rotate_left
     ·intro w'
      go_simp
      with_reducible rfl
     rotate_left
     ·simp only [Act.put, xA, xB, xC, i64_w, i32_w]
      rfl
     refine zp 12 (some 42) ?_ zA40 rfl rfl (Or.inl ⟨by rfl, ?_⟩) ?_ ?_ ?_
     rotate_left
     ·intro w'
      go_simp
      with_reducible rfl
     rotate_left
     ·simp only [Act.put, xA, xB, xC, i64_w, i32_w]
      rfl
     refine zp 13 (some 43) ?_ zA41 rfl rfl (Or.inl ⟨by rfl, ?_⟩) ?_ ?_ ?_
     rotate_left
     ·intro w'
      go_simp
      with_reducible rfl
     rotate_left
     ·simp only [Act.put, xA, xB, xC, i64_w, i32_w]
      rfl
     refine zu 8 (some 38) ?_ zA42 rfl rfl (Or.inl ⟨by rfl, ?_⟩) hHeld ?_ ?_ ?_
     rotate_left
     ·rintro w' ⟨s0, s1, s2⟩
      go_simp
      with_reducible rfl
     rotate_left
     ·simp only [Act.put, xA, xB, xC, i64_w, i32_w]
      rfl
     refine join_ (σ := Value × Value × Value) 3 zA43 (fun s_ => [(30, s_.1), (34, s_.2.1), (39, s_.2.2)]) (fun s_ w' => ((spec_l09Sort.d3 w' ad195 x4_1 l0)) ∧ (Kd.R k43 43 w' w.heap.size (fun k_ => some k_ ≠ (s_.2.2 : Value).ownBlock ∧ some k_ ≠ (.slice (some ad194) x3_1.length co22 : Value).ownBlock) s_.2.1 y204) ∧ (Kd.R k43 43 w' w.heap.size (fun k_ => some k_ ≠ (s_.2.1 : Value).ownBlock ∧ some k_ ≠ (.slice (some ad194) x3_1.length co22 : Value).ownBlock) s_.2.2 y208) ∧ (Kd.R k43 43 w' w.heap.size (fun k_ => some k_ ≠ (s_.2.1 : Value).ownBlock ∧ some k_ ≠ (s_.2.2 : Value).ownBlock) (.slice (some ad194) x3_1.length co22) x3_1) ∧ (Below w.heap.size w w')) ?_ ?_
     rotate_left
     ·intro hCont
      refine two_ (i := 0) (j := 9) (Ni := some 30) (Nj := some 39) zA44 zA45 rfl rfl rfl rfl (two_of HT_.out (by kernel_rfl)) (by decide) (by decide) (fun K hK => ?_) (fun K hK => ?_)
      ·skip
       refine Kd.R_lit_step k43 _ 43 ?hg (N := 30) ?hd (xs := ([] : List (S43))) (inner := []) (ok := fun _ => True) (okp := fun _ => True) ?hr ?hp (fun _ hk => hk) trivial (Below.refl _ _) (Nat.le_refl _) (by simp) ?_; (case hd => rfl); (case hg => rfl); (case hr => first | (go_simp; done) | (go_simp; rfl)); (case hp => exact (Reps.none _ _))
       intro v198 w27 ho28 hb hg_ hnew_
       clear hg_ hnew_
       (first | rw [← Ny197.out] at ho28 | (simp only [Int.reduceToNat] at ho28; rw [← Ny197.out] at ho28))
       have n0_ := aM (Kd.R_elder' (mR_ HO_3.out) (Kd.R_base ho28) hb)
       have n1_ := aM (Kd.R_lower (Kd.R_new' ho28 (Kd.R_lt (mR_ HO_3.out))) (below_size zb))
       have n2_ := aM (Kd.C_below (mQ_ HR203.out) hb)
       have n3_ := aM (Kd.C_below (mQ_ HR217.out) hb)
       have n4_ := aM (below_step zb hb)
       clear HO_3
       clear HR203
       clear HR217
       clear HB
       have HO_3 := n0_
       have HO199 := n1_
       have HR203 := n2_
       have HR217 := n3_
       have HB := n4_
       clear n0_ n1_ n2_ n3_ n4_
       clear hb ho28
       refine hK.out _ _ ⟨(zk HB.out hw207_0), (zk HB.out hw207_1), (zk HB.out hw207_2)⟩ (fun hHeld => ?_)
       clear hK K
       refine norm_ (a' := ?_) ?_ ?_
       rotate_left
       ·show Act.put _ (some 30) _ = _
        simp only [Act.put, xA, xB, xC, i64_w, i32_w]
        rfl
       refine two_ (i := 4) (j := 9) (Ni := some 34) (Nj := some 39) zA46 zA47 rfl rfl rfl rfl (two_of HT_.out (by kernel_rfl)) (by decide) (by decide) (fun K hK => ?_) (fun K hK => ?_)
       ·skip
        refine Kd.R_append_rows_step k43 (w0 := w) w.heap.size (by rfl) (.tmp 30) (.tmp 33) 40 43 (.agg #[(.int .i64 0), (.int .i64 0), (.int .i64 0)]) 24 rfl Try.underlying40 info43 rfl (by decide) (by omega) v198 y197 y200 _ _ _ (fun k_ => some k_ ≠ (.slice (some ad194) x3_1.length co22 : Value).ownBlock) (fun _ => False) rfl rfl ?aO ?aR (fun _ _ h => h) (fun _ h => h.elim) ?aF ?aB ?aS ?aL ?_
        (case aR => repeat (first | exact (mQ_ HR203.out) | (with_reducible refine Kd.C_alloc ?_ _) | (with_reducible refine Kd.C_drewN ?_ _) | (with_reducible refine Kd.C_drew ?_)))
        (case aB => exact zb)
        (case aF => exact (fun k_ hk => Kd.fresh' (Kd.R_lt (mR_ HO_3.out)) k_ hk))
        (case aO => exact (zd0 HO199.out))
        (case aS => exact (below_size zb))
        (case aL => have := LMc16.out; omega)
        intro v205 w29 ho hb hg hat
        rw [← Ny204.out] at ho
        have n0_ := aM (Kd.R_after (ok := (fun _ => True)) (mR_ HO_3.out) hg hat)
        have n1_ := aM (hb)
        have n2_ := aM ((show Kd.C k43 w29 (some ad194) y200.length y200 from by rw [Ny200.out]; exact Kd.C_take (m := (x5_2 : Int).toNat) ((Kd.R_reads' (Kd.R_after (ok := (fun _ => True)) (mR_ HO_3.out) hg hat)).2.2) KL25.out))
        have n3_ := aM ((show Kd.C k43 w29 A26 y214.length y214 from by rw [Ny214.out, KA26.out]; exact Kd.C_drop (m := (x5_2 : Int).toNat) (c := co22) ((Kd.R_reads' (Kd.R_after (ok := (fun _ => True)) (mR_ HO_3.out) hg hat)).2.2) KL26.out ((Kd.R_reads' (Kd.R_after (ok := (fun _ => True)) (mR_ HO_3.out) hg hat)).2.1)))
        have n4_ := aM (ho)
        clear HO_3
        clear HB
        clear HR203
        clear HR217
        clear HO199
        have HO_3 := n0_
        have HB := n1_
        have HR203 := n2_
        have HR217 := n3_
        have HO206 := n4_
        clear n0_ n1_ n2_ n3_ n4_
        clear ho hb hg hat
        refine hK.out _ _ ⟨(zk HB.out hw207_0), (zk HB.out hw207_1), (zk HB.out hw207_2)⟩ (fun hHeld => ?_)
        clear hK K
        refine norm_ (a' := ?_) ?_ ?_
        rotate_left
        ·show Act.put _ (some 34) _ = _
         simp only [Act.put, xA, xB, xC, i64_w, i32_w]
         rfl
        refine one_ (i := 9) (N := some 39) zA43 rfl rfl (one_of HT_.out (by kernel_rfl)) (by decide) (fun K hK => ?_)
        refine Kd.R_lit_step k43 _ 43 ?hg (N := 39) ?hd (xs := ([(⟨(rd_T43 l0 x4_1).f0, (rd_T43 l0 x4_1).f1, (rd_T43 l0 x4_1).f2⟩ : S43)] : List (S43))) (inner := [.int .i64 ((rd_T43 l0 x4_1).f0), .int .i64 ((rd_T43 l0 x4_1).f1), .int .i64 ((rd_T43 l0 x4_1).f2)]) (ok := fun _ => True) (okp := fun _ => True) ?hr ?hp (fun _ hk => hk) trivial (Below.refl _ _) (Nat.le_refl _) (by simp) ?_; (case hd => rfl); (case hg => rfl); (case hr => first | (go_simp; done) | (go_simp; rfl)); (case hp => exact (Reps.c3 (show Kd.M k43 _ _ _ (⟨(rd_T43 l0 x4_1).f0, (rd_T43 l0 x4_1).f1, (rd_T43 l0 x4_1).f2⟩ : S43) [.int .i64 ((rd_T43 l0 x4_1).f0), .int .i64 ((rd_T43 l0 x4_1).f1), .int .i64 ((rd_T43 l0 x4_1).f2)] from (k43_mkM _ _ _ (⟨(rd_T43 l0 x4_1).f0, (rd_T43 l0 x4_1).f1, (rd_T43 l0 x4_1).f2⟩ : S43) )) (Reps.none _ _)))
        intro v209 w30 ho31 hb hg_ hnew_
        clear hg_ hnew_
        (first | rw [← Ny208.out] at ho31 | (simp only [Int.reduceToNat] at ho31; rw [← Ny208.out] at ho31))
        have n0_ := aM (Kd.R_elder' (mR_ HO_3.out) (Kd.R_base ho31) hb)
        have n1_ := aM (Kd.R_elder' (mR_ HO206.out) (Kd.R_base ho31) hb)
        have n2_ := aM (Kd.R_lower (Kd.R_new' (Kd.R_new' ho31 (Kd.R_lt (mR_ HO_3.out))) (Kd.R_lt (mR_ HO206.out))) (below_size zb))
        have n3_ := aM (Kd.C_below (mQ_ HR203.out) hb)
        have n4_ := aM (Kd.C_below (mQ_ HR217.out) hb)
        have n5_ := aM (below_step zb hb)
        clear HO_3
        clear HO206
        clear HR203
        clear HR217
        clear HB
        have HO_3 := n0_
        have HO206 := n1_
        have HO210 := n2_
        have HR203 := n3_
        have HR217 := n4_
        have HB := n5_
        clear n0_ n1_ n2_ n3_ n4_ n5_
        clear hb ho31
        refine hK.out _ _ ⟨(zk HB.out hw207_0), (zk HB.out hw207_1), (zk HB.out hw207_2)⟩ (fun hHeld => ?_)
        clear hK K
        refine norm_ (a' := ?_) ?_ ?_
        rotate_left
        ·show Act.put _ (some 39) _ = _
         simp only [Act.put, xA, xB, xC, i64_w, i32_w]
         rfl
        exact norm_ (by simp only [putAll, Act.put, xA, xB, xC]) (hCont (v198, v205, v209) _ ⟨hHeld, (zd2 HO206.out), (zd3 HO210.out), (zd4 HO_3.out), zb⟩)
       ·skip
        refine Kd.R_lit_step k43 _ 43 ?hg (N := 39) ?hd (xs := ([(⟨(rd_T43 l0 x4_1).f0, (rd_T43 l0 x4_1).f1, (rd_T43 l0 x4_1).f2⟩ : S43)] : List (S43))) (inner := [.int .i64 ((rd_T43 l0 x4_1).f0), .int .i64 ((rd_T43 l0 x4_1).f1), .int .i64 ((rd_T43 l0 x4_1).f2)]) (ok := fun _ => True) (okp := fun _ => True) ?hr ?hp (fun _ hk => hk) trivial (Below.refl _ _) (Nat.le_refl _) (by simp) ?_; (case hd => rfl); (case hg => rfl); (case hr => first | (go_simp; done) | (go_simp; rfl)); (case hp => exact (Reps.c3 (show Kd.M k43 _ _ _ (⟨(rd_T43 l0 x4_1).f0, (rd_T43 l0 x4_1).f1, (rd_T43 l0 x4_1).f2⟩ : S43) [.int .i64 ((rd_T43 l0 x4_1).f0), .int .i64 ((rd_T43 l0 x4_1).f1), .int .i64 ((rd_T43 l0 x4_1).f2)] from (k43_mkM _ _ _ (⟨(rd_T43 l0 x4_1).f0, (rd_T43 l0 x4_1).f1, (rd_T43 l0 x4_1).f2⟩ : S43) )) (Reps.none _ _)))
        intro v209 w29 ho30 hb hg_ hnew_
        clear hg_ hnew_
        (first | rw [← Ny208.out] at ho30 | (simp only [Int.reduceToNat] at ho30; rw [← Ny208.out] at ho30))
        have n0_ := aM (Kd.R_elder' (mR_ HO_3.out) (Kd.R_base ho30) hb)
        have n1_ := aM (Kd.R_elder' (mR_ HO199.out) (Kd.R_base ho30) hb)
        have n2_ := aM (Kd.R_lower (Kd.R_new' (Kd.R_new' ho30 (Kd.R_lt (mR_ HO_3.out))) (Kd.R_lt (mR_ HO199.out))) (below_size zb))
        have n3_ := aM (Kd.C_below (mQ_ HR203.out) hb)
        have n4_ := aM (Kd.C_below (mQ_ HR217.out) hb)
        have n5_ := aM (below_step zb hb)
        clear HO_3
        clear HO199
        clear HR203
        clear HR217
        clear HB
        have HO_3 := n0_
        have HO199 := n1_
        have HO210 := n2_
        have HR203 := n3_
        have HR217 := n4_
        have HB := n5_
        clear n0_ n1_ n2_ n3_ n4_ n5_
        clear hb ho30
        refine hK.out _ _ ⟨(zk HB.out hw207_0), (zk HB.out hw207_1), (zk HB.out hw207_2)⟩ (fun hHeld => ?_)
        clear hK K
        refine norm_ (a' := ?_) ?_ ?_
        rotate_left
        ·show Act.put _ (some 39) _ = _
         simp only [Act.put, xA, xB, xC, i64_w, i32_w]
         rfl
        refine one_ (i := 4) (N := some 34) zA43 rfl rfl (one_of HT_.out (by kernel_rfl)) (by decide) (fun K hK => ?_)
        refine Kd.R_append_rows_step k43 (w0 := w) w.heap.size (by rfl) (.tmp 30) (.tmp 33) 40 43 (.agg #[(.int .i64 0), (.int .i64 0), (.int .i64 0)]) 24 rfl Try.underlying40 info43 rfl (by decide) (by omega) v198 y197 y200 _ _ _ (fun k_ => some k_ ≠ (.slice (some ad194) x3_1.length co22 : Value).ownBlock ∧ some k_ ≠ (v209 : Value).ownBlock) (fun _ => False) rfl rfl ?aO ?aR (fun _ _ h => h) (fun _ h => h.elim) ?aF ?aB ?aS ?aL ?_
        (case aR => repeat (first | exact (mQ_ HR203.out) | (with_reducible refine Kd.C_alloc ?_ _) | (with_reducible refine Kd.C_drewN ?_ _) | (with_reducible refine Kd.C_drew ?_)))
        (case aB => exact zb)
        (case aF => exact (fun k_ hk => ⟨Kd.fresh' (Kd.R_lt (mR_ HO_3.out)) k_ hk, Kd.fresh' (Kd.R_lt (mR_ HO210.out)) k_ hk⟩))
        (case aO => exact (zd4 HO199.out))
        (case aS => exact (below_size zb))
        (case aL => have := LMc16.out; omega)
        intro v205 w31 ho hb hg hat
        rw [← Ny204.out] at ho
        have n0_ := aM (Kd.R_after (ok := (fun k_ => some k_ ≠ (v209 : Value).ownBlock)) (zd3 HO_3.out) hg hat)
        have n1_ := aM (Kd.R_after (ok := (fun k_ => some k_ ≠ (.slice (some ad194) x3_1.length co22 : Value).ownBlock)) (zd4 HO210.out) hg hat)
        have n2_ := aM (hb)
        have n3_ := aM ((show Kd.C k43 w31 (some ad194) y200.length y200 from by rw [Ny200.out]; exact Kd.C_take (m := (x5_2 : Int).toNat) ((Kd.R_reads' (Kd.R_after (ok := (fun k_ => some k_ ≠ (v209 : Value).ownBlock)) (zd3 HO_3.out) hg hat)).2.2) KL25.out))
        have n4_ := aM ((show Kd.C k43 w31 A26 y214.length y214 from by rw [Ny214.out, KA26.out]; exact Kd.C_drop (m := (x5_2 : Int).toNat) (c := co22) ((Kd.R_reads' (Kd.R_after (ok := (fun k_ => some k_ ≠ (v209 : Value).ownBlock)) (zd3 HO_3.out) hg hat)).2.2) KL26.out ((Kd.R_reads' (Kd.R_after (ok := (fun k_ => some k_ ≠ (v209 : Value).ownBlock)) (zd3 HO_3.out) hg hat)).2.1)))
        have n5_ := aM (ho)
        clear HO_3
        clear HO210
        clear HB
        clear HR203
        clear HR217
        clear HO199
        have HO_3 := n0_
        have HO210 := n1_
        have HB := n2_
        have HR203 := n3_
        have HR217 := n4_
        have HO206 := n5_
        clear n0_ n1_ n2_ n3_ n4_ n5_
        clear ho hb hg hat
        refine hK.out _ _ ⟨(zk HB.out hw207_0), (zk HB.out hw207_1), (zk HB.out hw207_2)⟩ (fun hHeld => ?_)
        clear hK K
        refine norm_ (a' := ?_) ?_ ?_
        rotate_left
        ·show Act.put _ (some 34) _ = _
         simp only [Act.put, xA, xB, xC, i64_w, i32_w]
         rfl
        exact norm_ (by simp only [putAll, Act.put, xA, xB, xC]) (hCont (v198, v205, v209) _ ⟨hHeld, (zd2 HO206.out), (zd2 HO210.out), (zd2 HO_3.out), zb⟩)
      ·skip
       refine Kd.R_lit_step k43 _ 43 ?hg (N := 39) ?hd (xs := ([(⟨(rd_T43 l0 x4_1).f0, (rd_T43 l0 x4_1).f1, (rd_T43 l0 x4_1).f2⟩ : S43)] : List (S43))) (inner := [.int .i64 ((rd_T43 l0 x4_1).f0), .int .i64 ((rd_T43 l0 x4_1).f1), .int .i64 ((rd_T43 l0 x4_1).f2)]) (ok := fun _ => True) (okp := fun _ => True) ?hr ?hp (fun _ hk => hk) trivial (Below.refl _ _) (Nat.le_refl _) (by simp) ?_; (case hd => rfl); (case hg => rfl); (case hr => first | (go_simp; done) | (go_simp; rfl)); (case hp => exact (Reps.c3 (show Kd.M k43 _ _ _ (⟨(rd_T43 l0 x4_1).f0, (rd_T43 l0 x4_1).f1, (rd_T43 l0 x4_1).f2⟩ : S43) [.int .i64 ((rd_T43 l0 x4_1).f0), .int .i64 ((rd_T43 l0 x4_1).f1), .int .i64 ((rd_T43 l0 x4_1).f2)] from (k43_mkM _ _ _ (⟨(rd_T43 l0 x4_1).f0, (rd_T43 l0 x4_1).f1, (rd_T43 l0 x4_1).f2⟩ : S43) )) (Reps.none _ _)))
       intro v209 w27 ho28 hb hg_ hnew_
       clear hg_ hnew_
       (first | rw [← Ny208.out] at ho28 | (simp only [Int.reduceToNat] at ho28; rw [← Ny208.out] at ho28))
       have n0_ := aM (Kd.R_elder' (mR_ HO_3.out) (Kd.R_base ho28) hb)
       have n1_ := aM (Kd.R_lower (Kd.R_new' ho28 (Kd.R_lt (mR_ HO_3.out))) (below_size zb))
       have n2_ := aM (Kd.C_below (mQ_ HR203.out) hb)
       have n3_ := aM (Kd.C_below (mQ_ HR217.out) hb)
       have n4_ := aM (below_step zb hb)
       clear HO_3
       clear HR203
       clear HR217
       clear HB
       have HO_3 := n0_
       have HO210 := n1_
       have HR203 := n2_
       have HR217 := n3_
       have HB := n4_
       clear n0_ n1_ n2_ n3_ n4_
       clear hb ho28
       refine hK.out _ _ ⟨(zk HB.out hw207_0), (zk HB.out hw207_1), (zk HB.out hw207_2)⟩ (fun hHeld => ?_)
       clear hK K
       refine norm_ (a' := ?_) ?_ ?_
       rotate_left
       ·show Act.put _ (some 39) _ = _
        simp only [Act.put, xA, xB, xC, i64_w, i32_w]
        rfl
       refine one_ (i := 0) (N := some 30) zA47 rfl rfl (one_of HT_.out (by kernel_rfl)) (by decide) (fun K hK => ?_)
       refine Kd.R_lit_step k43 _ 43 ?hg (N := 30) ?hd (xs := ([] : List (S43))) (inner := []) (ok := fun _ => True) (okp := fun _ => True) ?hr ?hp (fun _ hk => hk) trivial (Below.refl _ _) (Nat.le_refl _) (by simp) ?_; (case hd => rfl); (case hg => rfl); (case hr => first | (go_simp; done) | (go_simp; rfl)); (case hp => exact (Reps.none _ _))
       intro v198 w29 ho30 hb hg_ hnew_
       clear hg_ hnew_
       (first | rw [← Ny197.out] at ho30 | (simp only [Int.reduceToNat] at ho30; rw [← Ny197.out] at ho30))
       have n0_ := aM (Kd.R_elder' (mR_ HO_3.out) (Kd.R_base ho30) hb)
       have n1_ := aM (Kd.R_elder' (mR_ HO210.out) (Kd.R_base ho30) hb)
       have n2_ := aM (Kd.R_lower (Kd.R_new' (Kd.R_new' ho30 (Kd.R_lt (mR_ HO_3.out))) (Kd.R_lt (mR_ HO210.out))) (below_size zb))
       have n3_ := aM (Kd.C_below (mQ_ HR203.out) hb)
       have n4_ := aM (Kd.C_below (mQ_ HR217.out) hb)
       have n5_ := aM (below_step zb hb)
       clear HO_3
       clear HO210
       clear HR203
       clear HR217
       clear HB
       have HO_3 := n0_
       have HO210 := n1_
       have HO199 := n2_
       have HR203 := n3_
       have HR217 := n4_
       have HB := n5_
       clear n0_ n1_ n2_ n3_ n4_ n5_
       clear hb ho30
       refine hK.out _ _ ⟨(zk HB.out hw207_0), (zk HB.out hw207_1), (zk HB.out hw207_2)⟩ (fun hHeld => ?_)
       clear hK K
       refine norm_ (a' := ?_) ?_ ?_
       rotate_left
       ·show Act.put _ (some 30) _ = _
        simp only [Act.put, xA, xB, xC, i64_w, i32_w]
        rfl
       refine one_ (i := 4) (N := some 34) zA43 rfl rfl (one_of HT_.out (by kernel_rfl)) (by decide) (fun K hK => ?_)
       refine Kd.R_append_rows_step k43 (w0 := w) w.heap.size (by rfl) (.tmp 30) (.tmp 33) 40 43 (.agg #[(.int .i64 0), (.int .i64 0), (.int .i64 0)]) 24 rfl Try.underlying40 info43 rfl (by decide) (by omega) v198 y197 y200 _ _ _ (fun k_ => some k_ ≠ (.slice (some ad194) x3_1.length co22 : Value).ownBlock ∧ some k_ ≠ (v209 : Value).ownBlock) (fun _ => False) rfl rfl ?aO ?aR (fun _ _ h => h) (fun _ h => h.elim) ?aF ?aB ?aS ?aL ?_
       (case aR => repeat (first | exact (mQ_ HR203.out) | (with_reducible refine Kd.C_alloc ?_ _) | (with_reducible refine Kd.C_drewN ?_ _) | (with_reducible refine Kd.C_drew ?_)))
       (case aB => exact zb)
       (case aF => exact (fun k_ hk => ⟨Kd.fresh' (Kd.R_lt (mR_ HO_3.out)) k_ hk, Kd.fresh' (Kd.R_lt (mR_ HO210.out)) k_ hk⟩))
       (case aO => exact (zd4 HO199.out))
       (case aS => exact (below_size zb))
       (case aL => have := LMc16.out; omega)
       intro v205 w31 ho hb hg hat
       rw [← Ny204.out] at ho
       have n0_ := aM (Kd.R_after (ok := (fun k_ => some k_ ≠ (v209 : Value).ownBlock)) (zd4 HO_3.out) hg hat)
       have n1_ := aM (Kd.R_after (ok := (fun k_ => some k_ ≠ (.slice (some ad194) x3_1.length co22 : Value).ownBlock)) (zd4 HO210.out) hg hat)
       have n2_ := aM (hb)
       have n3_ := aM ((show Kd.C k43 w31 (some ad194) y200.length y200 from by rw [Ny200.out]; exact Kd.C_take (m := (x5_2 : Int).toNat) ((Kd.R_reads' (Kd.R_after (ok := (fun k_ => some k_ ≠ (v209 : Value).ownBlock)) (zd4 HO_3.out) hg hat)).2.2) KL25.out))
       have n4_ := aM ((show Kd.C k43 w31 A26 y214.length y214 from by rw [Ny214.out, KA26.out]; exact Kd.C_drop (m := (x5_2 : Int).toNat) (c := co22) ((Kd.R_reads' (Kd.R_after (ok := (fun k_ => some k_ ≠ (v209 : Value).ownBlock)) (zd4 HO_3.out) hg hat)).2.2) KL26.out ((Kd.R_reads' (Kd.R_after (ok := (fun k_ => some k_ ≠ (v209 : Value).ownBlock)) (zd4 HO_3.out) hg hat)).2.1)))
       have n5_ := aM (ho)
       clear HO_3
       clear HO210
       clear HB
       clear HR203
       clear HR217
       clear HO199
       have HO_3 := n0_
       have HO210 := n1_
       have HB := n2_
       have HR203 := n3_
       have HR217 := n4_
       have HO206 := n5_
       clear n0_ n1_ n2_ n3_ n4_ n5_
       clear ho hb hg hat
       refine hK.out _ _ ⟨(zk HB.out hw207_0), (zk HB.out hw207_1), (zk HB.out hw207_2)⟩ (fun hHeld => ?_)
       clear hK K
       refine norm_ (a' := ?_) ?_ ?_
       rotate_left
       ·show Act.put _ (some 34) _ = _
        simp only [Act.put, xA, xB, xC, i64_w, i32_w]
        rfl
       exact norm_ (by simp only [putAll, Act.put, xA, xB, xC]) (hCont (v198, v205, v209) _ ⟨hHeld, (zd2 HO206.out), (zd2 HO210.out), (zd2 HO_3.out), zb⟩)
     rintro ⟨v198, v205, v209⟩ w32 ⟨hS_, h0_, h1_, h2_, h3_⟩
     have n0_ : Aside0 (Kd.R k43 43 w32 w.heap.size (fun k_ => some k_ ≠ (v209 : Value).ownBlock ∧ some k_ ≠ (.slice (some ad194) x3_1.length co22 : Value).ownBlock) v205 y204) := ⟨h0_⟩
     have n1_ : Aside0 (Kd.R k43 43 w32 w.heap.size (fun k_ => some k_ ≠ (v205 : Value).ownBlock ∧ some k_ ≠ (.slice (some ad194) x3_1.length co22 : Value).ownBlock) v209 y208) := ⟨h1_⟩
     have n2_ : Aside0 (Kd.R k43 43 w32 w.heap.size (fun k_ => some k_ ≠ (v205 : Value).ownBlock ∧ some k_ ≠ (v209 : Value).ownBlock) (.slice (some ad194) x3_1.length co22) x3_1) := ⟨h2_⟩
     have n3_ : Aside0 (Below w.heap.size w w32) := ⟨h3_⟩
     clear HO_3
     clear HB
     clear h0_ h1_ h2_ h3_
     have HO206 := n0_
     have HO210 := n1_
     have HO_3 := n2_
     have HB := n3_
     clear n0_ n1_ n2_ n3_
     have hHeld : (spec_l09Sort.d3 w32 ad195 x4_1 l0) := hS_
     (try clear HR203)
     have HR203 := aM (show Kd.C k43 _ (some ad194) y200.length y200 from by rw [Ny200.out]; exact Kd.C_take (m := (x5_2 : Int).toNat) ((Kd.R_reads' HO_3.out).2.2) KL25.out)
     (try clear HR217)
     have HR217 := aM (show Kd.C k43 _ A26 y214.length y214 from by rw [Ny214.out, KA26.out]; exact Kd.C_drop (m := (x5_2 : Int).toNat) (c := co22) ((Kd.R_reads' HO_3.out).2.2) KL26.out ((Kd.R_reads' HO_3.out).2.1))
     obtain ⟨Ao34, co34, eo34⟩ := Kd.R_slice HO210.out
     (first | subst eo34 | (injection eo34 with f1_ f2_ f3_; have f4_ := f1_.symm; have f5_ := f3_.symm; clear f1_ f2_ f3_; subst f4_; subst f5_))
     refine norm_ (a' := ?_) ?_ ?_
     rotate_left
     ·simp only [putAll, Act.put, xA, xB, xC]
      rfl
     refine one_ (i := 10) (N := some 40) zA48 rfl rfl (one_of HT_.out (by kernel_rfl)) (by decide) (fun K hK => ?_)
     refine Kd.R_append_rows_step k43 (w0 := w) w.heap.size (by rfl) (.tmp 34) (.tmp 39) 40 43 (.agg #[(.int .i64 0), (.int .i64 0), (.int .i64 0)]) 24 rfl Try.underlying40 info43 rfl (by decide) (by omega) v205 y204 y208 _ _ _ (fun k_ => some k_ ≠ (.slice (some ad194) x3_1.length co22 : Value).ownBlock ∧ some k_ ≠ (.slice Ao34 y208.length co34 : Value).ownBlock) (fun _ => False) rfl rfl ?aO ?aR (fun _ _ h => h) (fun _ h => h.elim) ?aF ?aB ?aS ?aL ?_
     (case aR => exact zc HO210.out)
     (case aB => exact zb)
     (case aF => exact (fun k_ hk => ⟨Kd.fresh' (Kd.R_lt (mR_ HO_3.out)) k_ hk, Kd.fresh' (Kd.R_lt (mR_ HO210.out)) k_ hk⟩))
     (case aO => exact (zd2 HO206.out))
     (case aS => exact (below_size zb))
     (case aL => have := LMc17.out; omega)
     intro v212 w33 ho hb hg hat
     rw [← Ny211.out] at ho
     have n0_ := aM (Kd.R_after (ok := (fun k_ => some k_ ≠ (.slice Ao34 y208.length co34 : Value).ownBlock)) (zd2 HO_3.out) hg hat)
     have n1_ := aM (Kd.R_after (ok := (fun k_ => some k_ ≠ (.slice (some ad194) x3_1.length co22 : Value).ownBlock)) (zd2 HO210.out) hg hat)
     have n2_ := aM (hb)
     have n3_ := aM ((show Kd.C k43 w33 (some ad194) y200.length y200 from by rw [Ny200.out]; exact Kd.C_take (m := (x5_2 : Int).toNat) ((Kd.R_reads' (Kd.R_after (ok := (fun k_ => some k_ ≠ (.slice Ao34 y208.length co34 : Value).ownBlock)) (zd2 HO_3.out) hg hat)).2.2) KL25.out))
     have n4_ := aM ((show Kd.C k43 w33 A26 y214.length y214 from by rw [Ny214.out, KA26.out]; exact Kd.C_drop (m := (x5_2 : Int).toNat) (c := co22) ((Kd.R_reads' (Kd.R_after (ok := (fun k_ => some k_ ≠ (.slice Ao34 y208.length co34 : Value).ownBlock)) (zd2 HO_3.out) hg hat)).2.2) KL26.out ((Kd.R_reads' (Kd.R_after (ok := (fun k_ => some k_ ≠ (.slice Ao34 y208.length co34 : Value).ownBlock)) (zd2 HO_3.out) hg hat)).2.1)))
     have n5_ := aM (ho)
     clear HO_3
     clear HO210
     clear HB
     clear HR203
     clear HR217
     clear HO206
     have HO_3 := n0_
     have HO210 := n1_
     have HB := n2_
     have HR203 := n3_
     have HR217 := n4_
     have HO213 := n5_
     clear n0_ n1_ n2_ n3_ n4_ n5_
     clear ho hb hg hat
     refine hK.out _ _ ⟨(zk HB.out hw207_0), (zk HB.out hw207_1), (zk HB.out hw207_2)⟩ (fun hHeld => ?_)
     clear hK K
     refine norm_ (a' := ?_) ?_ ?_
     rotate_left
     ·show Act.put _ (some 40) _ = _
      simp only [Act.put, xA, xB, xC, i64_w, i32_w]
      rfl
     refine one_ (i := 14) (N := some 44) zA49 rfl rfl (one_of HT_.out (by kernel_rfl)) (by decide) (fun K hK => ?_)
     refine Kd.R_append_rows_step k43 (w0 := w) w.heap.size (by rfl) (.tmp 40) (.tmp 43) 40 43 (.agg #[(.int .i64 0), (.int .i64 0), (.int .i64 0)]) 24 rfl Try.underlying40 info43 rfl (by decide) (by omega) v212 y211 y214 _ _ _ (fun k_ => some k_ ≠ (.slice (some ad194) x3_1.length co22 : Value).ownBlock ∧ some k_ ≠ (.slice Ao34 y208.length co34 : Value).ownBlock) (fun _ => False) rfl rfl ?aO ?aR (fun _ _ h => h) (fun _ h => h.elim) ?aF ?aB ?aS ?aL ?_
     (case aR => repeat (first | exact (mQ_ HR217.out) | (with_reducible refine Kd.C_alloc ?_ _) | (with_reducible refine Kd.C_drewN ?_ _) | (with_reducible refine Kd.C_drew ?_)))
     (case aB => exact zb)
     (case aF => exact (fun k_ hk => ⟨Kd.fresh' (Kd.R_lt (mR_ HO_3.out)) k_ hk, Kd.fresh' (Kd.R_lt (mR_ HO210.out)) k_ hk⟩))
     (case aO => exact (mR_ HO213.out))
     (case aS => exact (below_size zb))
     (case aL => have := LMc20.out; omega)
     intro v219 w35 ho hb hg hat
     rw [← Ny218.out] at ho
     have n0_ := aM (Kd.R_after (ok := (fun k_ => some k_ ≠ (.slice Ao34 y208.length co34 : Value).ownBlock)) (mR_ HO_3.out) hg hat)
     have n1_ := aM (Kd.R_after (ok := (fun k_ => some k_ ≠ (.slice (some ad194) x3_1.length co22 : Value).ownBlock)) (mR_ HO210.out) hg hat)
     have n2_ := aM (hb)
     have n3_ := aM ((show Kd.C k43 w35 (some ad194) y200.length y200 from by rw [Ny200.out]; exact Kd.C_take (m := (x5_2 : Int).toNat) ((Kd.R_reads' (Kd.R_after (ok := (fun k_ => some k_ ≠ (.slice Ao34 y208.length co34 : Value).ownBlock)) (mR_ HO_3.out) hg hat)).2.2) KL25.out))
     have n4_ := aM ((show Kd.C k43 w35 A26 y214.length y214 from by rw [Ny214.out, KA26.out]; exact Kd.C_drop (m := (x5_2 : Int).toNat) (c := co22) ((Kd.R_reads' (Kd.R_after (ok := (fun k_ => some k_ ≠ (.slice Ao34 y208.length co34 : Value).ownBlock)) (mR_ HO_3.out) hg hat)).2.2) KL26.out ((Kd.R_reads' (Kd.R_after (ok := (fun k_ => some k_ ≠ (.slice Ao34 y208.length co34 : Value).ownBlock)) (mR_ HO_3.out) hg hat)).2.1)))
     have n5_ := aM (ho)
     clear HO_3
     clear HO210
     clear HB
     clear HR203
     clear HR217
     clear HO213
     have HO_3 := n0_
     have HO210 := n1_
     have HB := n2_
     have HR203 := n3_
     have HR217 := n4_
     have HO220 := n5_
     clear n0_ n1_ n2_ n3_ n4_ n5_
     clear ho hb hg hat
     refine hK.out _ _ ⟨(zk HB.out hw207_0), (zk HB.out hw207_1), (zk HB.out hw207_2)⟩ (fun hHeld => ?_)
     clear hK K
     refine norm_ (a' := ?_) ?_ ?_
     rotate_left
     ·show Act.put _ (some 44) _ = _
      simp only [Act.put, xA, xB, xC, i64_w, i32_w]
      rfl
     refine zp 15 (some 3) ?_ zA50 rfl rfl (Or.inl ⟨by rfl, ?_⟩) ?_ ?_ ?_
     rotate_left
     ·intro w'
      go_simp
      with_reducible rfl
     rotate_left
     ·simp only [Act.put, xA, xB, xC, i64_w, i32_w]
      rfl
     refine done_ (done_of HT_.out (by kernel_rfl)) ?_
     try go_wp2
     go_roundg k2
     case measure => have := HK1.out; have := HK2.out; omega
     case rel => exact ⟨(y218), (wrap64 (x4_1 + 1)), zr, H', ⟨by have := HK1.out; have := HK2.out; omega⟩, ⟨zd1 HO220.out⟩, ⟨zb⟩⟩
mutual
def spec_l09Turn.j0 : Nat → Int → Int → Int → Int → Option (Int × Int × Int)
 | 0, _, _, _, _ => none
 | k + 1, x1, x290000, x290001, x290002 => spec_l09Turn.l0 k x1 (Int.tmod x1 4) x290000 x290001 x290002
def spec_l09Turn.l0 : Nat → Int → Int → Int → Int → Int → Option (Int × Int × Int)
 | 0, _, _, _, _, _ => none
 | k + 1, x1, x5, x290000, x290001, x290002 => if x5 > 0 then (spec_l09Turn.l0 k x1 (wrap64 (x5 - 1)) (wrap64 (-x290001)) x290000 x290002) else (if (Int.tmod (wrap64 (Int.tdiv x1 4)) 6) = 4 then (some (x290002, x290001, wrap64 (-x290000))) else (if (Int.tmod (wrap64 (Int.tdiv x1 4)) 6) = 5 then (some (wrap64 (-x290002), x290001, x290000)) else (spec_l09Turn.l1 k (Int.tmod (wrap64 (Int.tdiv x1 4)) 6) x290000 x290001 x290002)))
def spec_l09Turn.l1 : Nat → Int → Int → Int → Int → Option (Int × Int × Int)
 | 0, _, _, _, _ => none
 | k + 1, x6, x290000, x290001, x290002 => if x6 > 0 then (spec_l09Turn.l1 k (wrap64 (x6 - 1)) x290000 (wrap64 (-x290002)) x290001) else (some (x290000, x290001, x290002))
end
def spec_l09Turn.f (k : Nat) (a0_0 : Int) (a0_1 : Int) (a0_2 : Int) (a1 : Int) : Option (Int × Int × Int) := if a1 ≥ 24 then (spec_l09Turn.j0 k a1 (wrap64 (-a0_0)) a0_1 a0_2) else (spec_l09Turn.j0 k a1 a0_0 a0_1 a0_2)
theorem spec_l09Turn.calls (k : Nat) (a0_0 : Int) (a0_1 : Int) (a0_2 : Int) (a1 : Int) (r1 : Int) (r2 : Int) (r3 : Int) (w : World) (h : spec_l09Turn.f k a0_0 a0_1 a0_2 a1 = some (r1, r2, r3)) :
  Calls Try.prog 61 #[.agg #[.int .i64 a0_0, .int .i64 a0_1, .int .i64 a0_2], .int .i64 a1] w fun e w' => e = .returned (.agg #[.int .i64 r1, .int .i64 r2, .int .i64 r3]) ∧ Below w.heap.size w w' := by
 have hu43 := Try.underlying43
 have HB := aM (Below.refl w.heap.size w)
 have H : (if a1 ≥ 24 then (spec_l09Turn.j0 k a1 (wrap64 (-a0_0)) a0_1 a0_2) else (spec_l09Turn.j0 k a1 a0_0 a0_1 a0_2)) = some (r1, r2, r3) := h
 clear h
 have HC3 := aM H
 clear H
 go_enter Try.func61, Try.ntmps61
 go_upto_if 8 with (first | ((with_reducible refine gate_dst (N := 2) rfl ?_); refine zx 2 #[.int .i64 a0_0, .int .i64 a0_1, .int .i64 a0_2] 43 ?_; intro gb289 hg w4 hbox hb; have n0_ := aM (below_step zb hb); have n1_ := aM (hbox); have n2_ := aM ((ze : w.heap.size ≤ gb289)); have n3_ := aM ((ze : w.heap.size ≤ gb289)); clear HB; have HB := n0_; have BK289 := n1_; have GW289 := n2_; have GE289 := n3_; clear n0_ n1_ n2_ n3_; clear hb hbox hg) | ((with_reducible refine gate_dst (N := 4) rfl ?_); refine zx 4 #[.int .i64 0, .int .i64 0, .int .i64 0] 43 ?_; intro gb290 hg w5 hbox hb; have n0_ := aM (blk_below (g := gb289) (o := .cells #[.int .i64 a0_0, .int .i64 a0_1, .int .i64 a0_2] 43 (0, 0)) (mB_ BK289.out) hb); have n1_ := aM (below_step (zs GE289.out) hb); have n2_ := aM (hbox); have n3_ := aM ((zf GE289.out : w.heap.size ≤ gb290)); have n4_ := aM ((zf GE289.out : w.heap.size ≤ gb290)); have n5_ := aM ((zl BK289.out : gb289 ≠ gb290)); have n6_ := aM ((zn BK289.out : gb290 ≠ gb289)); clear BK289 HB; have BK289 := n0_; have HB := n1_; have BK290 := n2_; have GW290 := n3_; have GE290 := n4_; have NB289_290 := n5_; have NB290_289 := n6_; clear n0_ n1_ n2_ n3_ n4_ n5_ n6_; clear hb hbox hg))
 (try simp only [Act.put, xA, xB, xC])
 go_cut [] (fun wc => ∃ (kq : Nat) (x290000_2 : Int) (x290001_2 : Int) (x290002_2 : Int), Aside0 (spec_l09Turn.j0 kq a1 x290000_2 x290001_2 x290002_2 = some (r1, r2, r3)) ∧ Aside0 (kq ≤ k) ∧ Aside0 (wc.heap[gb289]? = some (.cells #[.int .i64 x290000_2, .int .i64 x290001_2, .int .i64 x290002_2] 43 (0, 0))) ∧ Aside0 (wc.heap[gb290]? = some (.cells #[.int .i64 0, .int .i64 0, .int .i64 0] 43 (0, 0))) ∧ Aside0 (Below w.heap.size w wc))
 case first =>
  have H := HC3.out
  clear HC3
  by_cases c6 : a1 ≥ 24
  rotate_left
  ·rw [if_neg c6] at H
   have c6b0 : decide (24 ≤ a1) = false := decide_eq_false c6
   clear c6
   (first | rw [c6b0] | (simp only [i64_w, i32_w]; rw [c6b0]) | skip)
   have H' := aM H
   clear H
   go_wp2
   go_meet
   case rel => exact ⟨_, (a0_0), (a0_1), (a0_2), H', ⟨by first | omega | exact Nat.le_refl _⟩, ⟨mB_ BK289.out⟩, ⟨mB_ BK290.out⟩, ⟨zt GE289.out GE290.out⟩⟩
  rw [if_pos c6] at H
  have c6b0 : decide (24 ≤ a1) = true := decide_eq_true c6
  clear c6
  (first | rw [c6b0] | (simp only [i64_w, i32_w]; rw [c6b0]) | skip)
  have H' := aM H
  clear H
  have hnb7 := NB289_290.out
  have hnc7 := NB290_289.out
  have hcz8_0 : w5.cell? ⟨gb289, 0, none⟩ = some (.int .i64 a0_0) := (blk_cell BK289.out 0).trans rfl
  have hcz8_1 : w5.cell? ⟨gb289, 1, none⟩ = some (.int .i64 a0_1) := (blk_cell BK289.out 1).trans rfl
  have hcz8_2 : w5.cell? ⟨gb289, 2, none⟩ = some (.int .i64 a0_2) := (blk_cell BK289.out 2).trans rfl
  have hfz8_0 := blk_frozen BK289.out 0
  have hfz8_1 := blk_frozen BK289.out 1
  have hfz8_2 := blk_frozen BK289.out 2
  go_wp2
  go_meet
  case rel => exact ⟨_, (wrap64 (-a0_0)), (a0_1), (a0_2), H', ⟨by first | omega | exact Nat.le_refl _⟩, ⟨by (with_reducible repeat (first | refine blk_drewN ?_ _ | refine blk_drew ?_ | refine blk_alloc ?_ _)); refine blk_put (cs := #[.int .i64 (wrap64 (-a0_0)), .int .i64 a0_1, .int .i64 a0_2]) ?_ 2 _ rfl; (with_reducible repeat (first | refine blk_drewN ?_ _ | refine blk_drew ?_ | refine blk_alloc ?_ _)); refine blk_put (cs := #[.int .i64 (wrap64 (-a0_0)), .int .i64 a0_1, .int .i64 a0_2]) ?_ 1 _ rfl; (with_reducible repeat (first | refine blk_drewN ?_ _ | refine blk_drew ?_ | refine blk_alloc ?_ _)); refine blk_put (cs := #[.int .i64 a0_0, .int .i64 a0_1, .int .i64 a0_2]) ?_ 0 _ rfl; (with_reducible repeat (first | refine blk_drewN ?_ _ | refine blk_drew ?_ | refine blk_alloc ?_ _)); exact BK289.out⟩, ⟨by (with_reducible repeat (first | refine blk_drewN ?_ _ | refine blk_drew ?_ | refine blk_alloc ?_ _)); refine blk_far ?_ NB290_289.out _; (with_reducible repeat (first | refine blk_drewN ?_ _ | refine blk_drew ?_ | refine blk_alloc ?_ _)); refine blk_far ?_ NB290_289.out _; (with_reducible repeat (first | refine blk_drewN ?_ _ | refine blk_drew ?_ | refine blk_alloc ?_ _)); refine blk_far ?_ NB290_289.out _; (with_reducible repeat (first | refine blk_drewN ?_ _ | refine blk_drew ?_ | refine blk_alloc ?_ _)); exact BK290.out⟩, ⟨zt GE289.out GE290.out⟩⟩
 case rest =>
  clear HC3
  try clear p2
  try clear c6
  try clear c6b0
  try clear p6
  try clear c7
  try clear hcz8_0
  try clear hcz8_1
  try clear hcz8_2
  try clear hfz8_0
  try clear hfz8_1
  try clear hfz8_2
  obtain ⟨kq, x290000_2, x290001_2, x290002_2, HA, HJ2, BK289, BK290, HB⟩ := hcut
  cases kq with
  | zero => exact absurd HA.out (by simp [spec_l09Turn.j0])
  | succ kj2 =>
   have H := HA.out
   clear HA
   simp only [spec_l09Turn.j0] at H
   have H' := aM H
   clear H
   go_wp2
   go_loopg [5] kj2 (fun kq v5 w' => ∃ (x5_2 : Int) (x290000_2 : Int) (x290001_2 : Int) (x290002_2 : Int), v5 = .int .i64 x5_2 ∧ Aside0 (spec_l09Turn.l0 kq a1 x5_2 x290000_2 x290001_2 x290002_2 = some (r1, r2, r3)) ∧ Aside0 (kq ≤ kj2) ∧ Aside0 (w'.heap[gb289]? = some (.cells #[.int .i64 x290000_2, .int .i64 x290001_2, .int .i64 x290002_2] 43 (0, 0))) ∧ Aside0 (w'.heap[gb290]? = some (.cells #[.int .i64 0, .int .i64 0, .int .i64 0] 43 (0, 0))) ∧ Aside0 (Below w.heap.size w w'))
   case atStart => exact ⟨(Int.tmod a1 4), (x290000_2), (x290001_2), (x290002_2), zr, H', ⟨Nat.le_refl _⟩, ⟨mB_ BK289.out⟩, ⟨mB_ BK290.out⟩, ⟨zt GE289.out GE290.out⟩⟩
   case round =>
    clear H'
    try clear p2
    try clear c6
    try clear c6b0
    try clear p6
    try clear c7
    try clear hcz8_0
    try clear hcz8_1
    try clear hcz8_2
    try clear hfz8_0
    try clear hfz8_1
    try clear hfz8_2
    try clear p2
    try clear p6
    obtain ⟨x5_2, x290000_2, x290001_2, x290002_2, rfl, HA, HK2, BK289, BK290, HB⟩ := hrel
    cases gk with
    | zero => exact absurd HA.out (by simp [spec_l09Turn.l0])
    | succ k2 =>
     have H := HA.out
     clear HA
     simp only [spec_l09Turn.l0] at H
     by_cases c9 : x5_2 > 0
     ·rw [if_pos c9] at H
      have c9b0 : decide (0 < x5_2) = true := decide_eq_true c9
      clear c9
      have H' := aM H
      clear H
      have hnb10 := NB289_290.out
      have hnc10 := NB290_289.out
      have hcz11_0 : wr.cell? ⟨gb289, 0, none⟩ = some (.int .i64 x290000_2) := (blk_cell BK289.out 0).trans rfl
      have hcz11_1 : wr.cell? ⟨gb289, 1, none⟩ = some (.int .i64 x290001_2) := (blk_cell BK289.out 1).trans rfl
      have hcz11_2 : wr.cell? ⟨gb289, 2, none⟩ = some (.int .i64 x290002_2) := (blk_cell BK289.out 2).trans rfl
      have hfz11_0 := blk_frozen BK289.out 0
      have hfz11_1 := blk_frozen BK289.out 1
      have hfz11_2 := blk_frozen BK289.out 2
      go_wp2
      go_roundg k2
      case measure => have := HJ2.out; have := HK2.out; omega
      case rel => exact ⟨(wrap64 (x5_2 - 1)), (wrap64 (-x290001_2)), (x290000_2), (x290002_2), zr, H', ⟨by have := HJ2.out; have := HK2.out; omega⟩, ⟨by (with_reducible repeat (first | refine blk_drewN ?_ _ | refine blk_drew ?_ | refine blk_alloc ?_ _)); refine blk_put (cs := #[.int .i64 (wrap64 (-x290001_2)), .int .i64 x290000_2, .int .i64 x290002_2]) ?_ 2 _ rfl; (with_reducible repeat (first | refine blk_drewN ?_ _ | refine blk_drew ?_ | refine blk_alloc ?_ _)); refine blk_put (cs := #[.int .i64 (wrap64 (-x290001_2)), .int .i64 x290001_2, .int .i64 x290002_2]) ?_ 1 _ rfl; (with_reducible repeat (first | refine blk_drewN ?_ _ | refine blk_drew ?_ | refine blk_alloc ?_ _)); refine blk_put (cs := #[.int .i64 x290000_2, .int .i64 x290001_2, .int .i64 x290002_2]) ?_ 0 _ rfl; (with_reducible repeat (first | refine blk_drewN ?_ _ | refine blk_drew ?_ | refine blk_alloc ?_ _)); exact BK289.out⟩, ⟨by (with_reducible repeat (first | refine blk_drewN ?_ _ | refine blk_drew ?_ | refine blk_alloc ?_ _)); refine blk_far ?_ NB290_289.out _; (with_reducible repeat (first | refine blk_drewN ?_ _ | refine blk_drew ?_ | refine blk_alloc ?_ _)); refine blk_far ?_ NB290_289.out _; (with_reducible repeat (first | refine blk_drewN ?_ _ | refine blk_drew ?_ | refine blk_alloc ?_ _)); refine blk_far ?_ NB290_289.out _; (with_reducible repeat (first | refine blk_drewN ?_ _ | refine blk_drew ?_ | refine blk_alloc ?_ _)); exact BK290.out⟩, ⟨zt GE289.out GE290.out⟩⟩
     rw [if_neg c9] at H
     have c9b0 : decide (0 < x5_2) = false := decide_eq_false c9
     clear c9
     by_cases c12 : (Int.tmod (wrap64 (Int.tdiv a1 4)) 6) = 4
     ·rw [if_pos c12] at H
      have c12b0 : ((Int.tmod (wrap64 (Int.tdiv a1 4)) 6) == 4) = true := beq_iff_eq.mpr c12
      have c12b1 : ((Int.tmod (wrap64 (Int.tdiv a1 4)) 6) != 4) = false := bne_eq_false_iff_eq.mpr c12
      clear c12
      simp only [Option.some.injEq, Prod.mk.injEq] at H
      obtain ⟨rfl, rfl, rfl⟩ := H
      have hnb13 := NB289_290.out
      have hnc13 := NB290_289.out
      have hcz14_0 : wr.cell? ⟨gb289, 0, none⟩ = some (.int .i64 x290000_2) := (blk_cell BK289.out 0).trans rfl
      have hcz14_1 : wr.cell? ⟨gb289, 1, none⟩ = some (.int .i64 x290001_2) := (blk_cell BK289.out 1).trans rfl
      have hcz14_2 : wr.cell? ⟨gb289, 2, none⟩ = some (.int .i64 x290002_2) := (blk_cell BK289.out 2).trans rfl
      have hfz14_0 := blk_frozen BK289.out 0
      have hfz14_1 := blk_frozen BK289.out 1
      have hfz14_2 := blk_frozen BK289.out 2
      have hcz15_0 : wr.cell? ⟨gb290, 0, none⟩ = some (.int .i64 0) := (blk_cell BK290.out 0).trans rfl
      have hcz15_1 : wr.cell? ⟨gb290, 1, none⟩ = some (.int .i64 0) := (blk_cell BK290.out 1).trans rfl
      have hcz15_2 : wr.cell? ⟨gb290, 2, none⟩ = some (.int .i64 0) := (blk_cell BK290.out 2).trans rfl
      have hfz15_0 := blk_frozen BK290.out 0
      have hfz15_1 := blk_frozen BK290.out 1
      have hfz15_2 := blk_frozen BK290.out 2
      go_wp2
      refine bodyPost_ret (results_cell_row rfl _ _ gb290 43 #[.int .i64 x290002_2, .int .i64 x290001_2, .int .i64 (wrap64 (-x290000_2))] (0, 0) _ rfl (by (with_reducible repeat (first | refine blk_drewN ?_ _ | refine blk_drew ?_ | refine blk_alloc ?_ _)); refine blk_put (cs := #[.int .i64 x290002_2, .int .i64 x290001_2, .int .i64 0]) ?_ 2 _ rfl; (with_reducible repeat (first | refine blk_drewN ?_ _ | refine blk_drew ?_ | refine blk_alloc ?_ _)); refine blk_put (cs := #[.int .i64 x290002_2, .int .i64 0, .int .i64 0]) ?_ 1 _ rfl; (with_reducible repeat (first | refine blk_drewN ?_ _ | refine blk_drew ?_ | refine blk_alloc ?_ _)); refine blk_put (cs := #[.int .i64 0, .int .i64 0, .int .i64 0]) ?_ 0 _ rfl; (with_reducible repeat (first | refine blk_drewN ?_ _ | refine blk_drew ?_ | refine blk_alloc ?_ _)); exact BK290.out) Try.underlying43 rfl (by kernel_rfl)) rfl ?_
      exact ⟨zw, zt GE289.out GE290.out⟩
     rw [if_neg c12] at H
     have c12b0 : ((Int.tmod (wrap64 (Int.tdiv a1 4)) 6) == 4) = false := beq_eq_false_iff_ne.mpr c12
     have c12b1 : ((Int.tmod (wrap64 (Int.tdiv a1 4)) 6) != 4) = true := bne_iff_ne.mpr c12
     by_cases c16 : (Int.tmod (wrap64 (Int.tdiv a1 4)) 6) = 5
     ·rw [if_pos c16] at H
      have c16b0 : ((Int.tmod (wrap64 (Int.tdiv a1 4)) 6) == 5) = true := beq_iff_eq.mpr c16
      have c16b1 : ((Int.tmod (wrap64 (Int.tdiv a1 4)) 6) != 5) = false := bne_eq_false_iff_eq.mpr c16
      clear c16
      simp only [Option.some.injEq, Prod.mk.injEq] at H
      obtain ⟨rfl, rfl, rfl⟩ := H
      have hnb17 := NB289_290.out
      have hnc17 := NB290_289.out
      have hcz18_0 : wr.cell? ⟨gb289, 0, none⟩ = some (.int .i64 x290000_2) := (blk_cell BK289.out 0).trans rfl
      have hcz18_1 : wr.cell? ⟨gb289, 1, none⟩ = some (.int .i64 x290001_2) := (blk_cell BK289.out 1).trans rfl
      have hcz18_2 : wr.cell? ⟨gb289, 2, none⟩ = some (.int .i64 x290002_2) := (blk_cell BK289.out 2).trans rfl
      have hfz18_0 := blk_frozen BK289.out 0
      have hfz18_1 := blk_frozen BK289.out 1
      have hfz18_2 := blk_frozen BK289.out 2
      have hcz19_0 : wr.cell? ⟨gb290, 0, none⟩ = some (.int .i64 0) := (blk_cell BK290.out 0).trans rfl
      have hcz19_1 : wr.cell? ⟨gb290, 1, none⟩ = some (.int .i64 0) := (blk_cell BK290.out 1).trans rfl
      have hcz19_2 : wr.cell? ⟨gb290, 2, none⟩ = some (.int .i64 0) := (blk_cell BK290.out 2).trans rfl
      have hfz19_0 := blk_frozen BK290.out 0
      have hfz19_1 := blk_frozen BK290.out 1
      have hfz19_2 := blk_frozen BK290.out 2
      go_wp2
      refine bodyPost_ret (results_cell_row rfl _ _ gb290 43 #[.int .i64 (wrap64 (-x290002_2)), .int .i64 x290001_2, .int .i64 x290000_2] (0, 0) _ rfl (by (with_reducible repeat (first | refine blk_drewN ?_ _ | refine blk_drew ?_ | refine blk_alloc ?_ _)); refine blk_put (cs := #[.int .i64 (wrap64 (-x290002_2)), .int .i64 x290001_2, .int .i64 0]) ?_ 2 _ rfl; (with_reducible repeat (first | refine blk_drewN ?_ _ | refine blk_drew ?_ | refine blk_alloc ?_ _)); refine blk_put (cs := #[.int .i64 (wrap64 (-x290002_2)), .int .i64 0, .int .i64 0]) ?_ 1 _ rfl; (with_reducible repeat (first | refine blk_drewN ?_ _ | refine blk_drew ?_ | refine blk_alloc ?_ _)); refine blk_put (cs := #[.int .i64 0, .int .i64 0, .int .i64 0]) ?_ 0 _ rfl; (with_reducible repeat (first | refine blk_drewN ?_ _ | refine blk_drew ?_ | refine blk_alloc ?_ _)); exact BK290.out) Try.underlying43 rfl (by kernel_rfl)) rfl ?_
      exact ⟨zw, zt GE289.out GE290.out⟩
     rw [if_neg c16] at H
     have c16b0 : ((Int.tmod (wrap64 (Int.tdiv a1 4)) 6) == 5) = false := beq_eq_false_iff_ne.mpr c16
     have c16b1 : ((Int.tmod (wrap64 (Int.tdiv a1 4)) 6) != 5) = true := bne_iff_ne.mpr c16
     have H' := aM H
     clear H
     go_wp2
     go_loopg [6] k2 (fun kq v6 w' => ∃ (x6_3 : Int) (x290000_3 : Int) (x290001_3 : Int) (x290002_3 : Int), v6 = .int .i64 x6_3 ∧ Aside0 (spec_l09Turn.l1 kq x6_3 x290000_3 x290001_3 x290002_3 = some (r1, r2, r3)) ∧ Aside0 (kq ≤ k2) ∧ Aside0 (w'.heap[gb289]? = some (.cells #[.int .i64 x290000_3, .int .i64 x290001_3, .int .i64 x290002_3] 43 (0, 0))) ∧ Aside0 (w'.heap[gb290]? = some (.cells #[.int .i64 0, .int .i64 0, .int .i64 0] 43 (0, 0))) ∧ Aside0 (Below w.heap.size w w'))
     case atStart => exact ⟨(Int.tmod (wrap64 (Int.tdiv a1 4)) 6), (x290000_2), (x290001_2), (x290002_2), zr, H', ⟨Nat.le_refl _⟩, ⟨mB_ BK289.out⟩, ⟨mB_ BK290.out⟩, ⟨zt GE289.out GE290.out⟩⟩
     case round =>
      clear H'
      try clear c1
      try clear p2
      try clear c6
      try clear c6b0
      try clear p6
      try clear c7
      try clear c9
      try clear c9b0
      try clear c10
      try clear c12
      try clear c12b0
      try clear c12b1
      try clear c13
      try clear c16
      try clear c16b0
      try clear c16b1
      try clear c17
      try clear hcz11_0
      try clear hcz11_1
      try clear hcz11_2
      try clear hcz14_0
      try clear hcz14_1
      try clear hcz14_2
      try clear hcz15_0
      try clear hcz15_1
      try clear hcz15_2
      try clear hcz18_0
      try clear hcz18_1
      try clear hcz18_2
      try clear hcz19_0
      try clear hcz19_1
      try clear hcz19_2
      try clear hcz8_0
      try clear hcz8_1
      try clear hcz8_2
      try clear hfz11_0
      try clear hfz11_1
      try clear hfz11_2
      try clear hfz14_0
      try clear hfz14_1
      try clear hfz14_2
      try clear hfz15_0
      try clear hfz15_1
      try clear hfz15_2
      try clear hfz18_0
      try clear hfz18_1
      try clear hfz18_2
      try clear hfz19_0
      try clear hfz19_1
      try clear hfz19_2
      try clear hfz8_0
      try clear hfz8_1
      try clear hfz8_2
      try clear p2
      try clear p6
      obtain ⟨x6_3, x290000_3, x290001_3, x290002_3, rfl, HA, HK3, BK289, BK290, HB⟩ := hrel
      cases gk with
      | zero => exact absurd HA.out (by simp [spec_l09Turn.l1])
      | succ k3 =>
       have H := HA.out
       clear HA
       simp only [spec_l09Turn.l1] at H
       by_cases c20 : x6_3 > 0
       ·rw [if_pos c20] at H
        have c20b0 : decide (0 < x6_3) = true := decide_eq_true c20
        clear c20
        have H' := aM H
        clear H
        have hnb21 := NB289_290.out
        have hnc21 := NB290_289.out
        have hcz22_0 : wr.cell? ⟨gb289, 0, none⟩ = some (.int .i64 x290000_3) := (blk_cell BK289.out 0).trans rfl
        have hcz22_1 : wr.cell? ⟨gb289, 1, none⟩ = some (.int .i64 x290001_3) := (blk_cell BK289.out 1).trans rfl
        have hcz22_2 : wr.cell? ⟨gb289, 2, none⟩ = some (.int .i64 x290002_3) := (blk_cell BK289.out 2).trans rfl
        have hfz22_0 := blk_frozen BK289.out 0
        have hfz22_1 := blk_frozen BK289.out 1
        have hfz22_2 := blk_frozen BK289.out 2
        go_wp2
        go_roundg k3
        case measure => have := HJ2.out; have := HK2.out; have := HK3.out; omega
        case rel => exact ⟨(wrap64 (x6_3 - 1)), (x290000_3), (wrap64 (-x290002_3)), (x290001_3), zr, H', ⟨by have := HJ2.out; have := HK2.out; have := HK3.out; omega⟩, ⟨by (with_reducible repeat (first | refine blk_drewN ?_ _ | refine blk_drew ?_ | refine blk_alloc ?_ _)); refine blk_put (cs := #[.int .i64 x290000_3, .int .i64 (wrap64 (-x290002_3)), .int .i64 x290002_3]) ?_ 2 _ rfl; (with_reducible repeat (first | refine blk_drewN ?_ _ | refine blk_drew ?_ | refine blk_alloc ?_ _)); refine blk_put (cs := #[.int .i64 x290000_3, .int .i64 x290001_3, .int .i64 x290002_3]) ?_ 1 _ rfl; (with_reducible repeat (first | refine blk_drewN ?_ _ | refine blk_drew ?_ | refine blk_alloc ?_ _)); refine blk_put (cs := #[.int .i64 x290000_3, .int .i64 x290001_3, .int .i64 x290002_3]) ?_ 0 _ rfl; (with_reducible repeat (first | refine blk_drewN ?_ _ | refine blk_drew ?_ | refine blk_alloc ?_ _)); exact BK289.out⟩, ⟨by (with_reducible repeat (first | refine blk_drewN ?_ _ | refine blk_drew ?_ | refine blk_alloc ?_ _)); refine blk_far ?_ NB290_289.out _; (with_reducible repeat (first | refine blk_drewN ?_ _ | refine blk_drew ?_ | refine blk_alloc ?_ _)); refine blk_far ?_ NB290_289.out _; (with_reducible repeat (first | refine blk_drewN ?_ _ | refine blk_drew ?_ | refine blk_alloc ?_ _)); refine blk_far ?_ NB290_289.out _; (with_reducible repeat (first | refine blk_drewN ?_ _ | refine blk_drew ?_ | refine blk_alloc ?_ _)); exact BK290.out⟩, ⟨zt GE289.out GE290.out⟩⟩
       rw [if_neg c20] at H
       have c20b0 : decide (0 < x6_3) = false := decide_eq_false c20
       clear c20
       simp only [Option.some.injEq, Prod.mk.injEq] at H
       obtain ⟨rfl, rfl, rfl⟩ := H
       have hnb23 := NB289_290.out
       have hnc23 := NB290_289.out
       have hcz24_0 : wr.cell? ⟨gb289, 0, none⟩ = some (.int .i64 x290000_3) := (blk_cell BK289.out 0).trans rfl
       have hcz24_1 : wr.cell? ⟨gb289, 1, none⟩ = some (.int .i64 x290001_3) := (blk_cell BK289.out 1).trans rfl
       have hcz24_2 : wr.cell? ⟨gb289, 2, none⟩ = some (.int .i64 x290002_3) := (blk_cell BK289.out 2).trans rfl
       have hfz24_0 := blk_frozen BK289.out 0
       have hfz24_1 := blk_frozen BK289.out 1
       have hfz24_2 := blk_frozen BK289.out 2
       have hcz25_0 : wr.cell? ⟨gb290, 0, none⟩ = some (.int .i64 0) := (blk_cell BK290.out 0).trans rfl
       have hcz25_1 : wr.cell? ⟨gb290, 1, none⟩ = some (.int .i64 0) := (blk_cell BK290.out 1).trans rfl
       have hcz25_2 : wr.cell? ⟨gb290, 2, none⟩ = some (.int .i64 0) := (blk_cell BK290.out 2).trans rfl
       have hfz25_0 := blk_frozen BK290.out 0
       have hfz25_1 := blk_frozen BK290.out 1
       have hfz25_2 := blk_frozen BK290.out 2
       go_wp2
       refine bodyPost_ret (results_cell_row rfl _ _ gb290 43 #[.int .i64 x290000_3, .int .i64 x290001_3, .int .i64 x290002_3] (0, 0) _ rfl (by (with_reducible repeat (first | refine blk_drewN ?_ _ | refine blk_drew ?_ | refine blk_alloc ?_ _)); refine blk_put (cs := #[.int .i64 x290000_3, .int .i64 x290001_3, .int .i64 0]) ?_ 2 _ rfl; (with_reducible repeat (first | refine blk_drewN ?_ _ | refine blk_drew ?_ | refine blk_alloc ?_ _)); refine blk_put (cs := #[.int .i64 x290000_3, .int .i64 0, .int .i64 0]) ?_ 1 _ rfl; (with_reducible repeat (first | refine blk_drewN ?_ _ | refine blk_drew ?_ | refine blk_alloc ?_ _)); refine blk_put (cs := #[.int .i64 0, .int .i64 0, .int .i64 0]) ?_ 0 _ rfl; (with_reducible repeat (first | refine blk_drewN ?_ _ | refine blk_drew ?_ | refine blk_alloc ?_ _)); exact BK290.out) Try.underlying43 rfl (by kernel_rfl)) rfl ?_
       exact ⟨zw, zt GE289.out GE290.out⟩
def spec_l09Form.l0 : Nat → List (S43) → Int → List (S43) → Int → Option ((List (S43)))
 | 0, _, _, _, _ => none
 | k + 1, x0, x1, x5, x6 => if x6 < (x0.length : Int) then (if 0 ≤ x6 then ((spec_l09Turn.f k ((rd_T43 x0 x6).f0) ((rd_T43 x0 x6).f1) ((rd_T43 x0 x6).f2) x1).bind fun bt295 => (if x5.length < 5864062014805 then (spec_l09Form.l0 k x0 x1 (x5 ++ [(⟨bt295.1, bt295.2.1, bt295.2.2⟩ : S43)]) (wrap64 (x6 + 1))) else (none))) else (none)) else ((spec_l09Sort.f k x5).bind fun t301 => ((spec_l09Normal.f k t301).bind fun t304 => (some t304)))
def spec_l09Form.f (k : Nat) (l0 : List (S43)) (a1 : Int) : Option ((List (S43))) := spec_l09Form.l0 k l0 a1 (([] : List (S43))) 0
theorem spec_l09Form.calls (k : Nat) (A0 : Option Addr) (c0 : Nat) (l0 : List (S43)) (a1 : Int) (r : List (S43)) (w : World) (hr0 : Kd.C k43 w A0 l0.length l0) (hc0 : l0.length ≤ c0) (h : spec_l09Form.f k l0 a1 = some r) :
  Calls Try.prog 51 #[.slice A0 l0.length c0, .int .i64 a1] w fun e w' => ∃ v0_ : Value, e = .returned (v0_) ∧ Kd.R k43 43 w' w.heap.size (fun _ => True) v0_ r ∧ Below w.heap.size w w' := by
 have hu43 := Try.underlying43
 have HR0 := aM hr0
 have HC0 := aM hc0
 clear hr0 hc0
 have HB := aM (Below.refl w.heap.size w)
 have H : (spec_l09Form.l0 k l0 a1 (([] : List (S43))) 0) = some r := h
 clear h
 obtain ⟨y291, hy291⟩ : ∃ y_ : List (S43), y_ = (([] : List (S43))) := ⟨_, rfl⟩
 replace H : (spec_l09Form.l0 k l0 a1 y291 0) = some r := zy H hy291
 have Ny291 := aM hy291
 clear hy291
 have H' := aM H
 clear H
 go_enter Try.func51, Try.ntmps51
 go_wp2_with (first | ((with_reducible refine gate_dst (N := 7) rfl ?_); refine Kd.R_lit k43 _ 43 ?hg (N := 7) ?hd (xs := ([] : List (S43))) (inner := []) (ok := fun _ => True) (okp := fun _ => True) ?hr ?hp (fun _ hk => hk) trivial (Below.refl _ _) (Nat.le_refl _) (by simp) ?_; (case hd => rfl); (case hg => rfl); (case hr => first | (go_simp; done) | (go_simp; rfl)); (case hp => exact (Reps.none _ _)); intro v292 w3 ho4 hb hg_ hnew_; clear hg_ hnew_; (first | rw [← Ny291.out] at ho4 | (simp only [Int.reduceToNat] at ho4; rw [← Ny291.out] at ho4)); have n0_ := aM (Kd.R_lower ho4 (below_size zb)); have n1_ := aM (below_step zb hb); clear HB; have HO293 := n0_; have HB := n1_; clear n0_ n1_; clear hb ho4))
 go_loopg [5, 6] k (fun kq v5 v6 w' => ∃ (x5_1 : List (S43)) (x6_1 : Int), v6 = .int .i64 x6_1 ∧ Aside0 (spec_l09Form.l0 kq l0 a1 x5_1 x6_1 = some r) ∧ Aside0 (kq ≤ k) ∧ Aside0 (Kd.R k43 43 w' w.heap.size (fun _ => True) v5 x5_1) ∧ Aside0 (Below w.heap.size w w'))
 case atStart => exact ⟨(y291), (0), zr, H', ⟨Nat.le_refl _⟩, ⟨mR_ HO293.out⟩, ⟨zb⟩⟩
 case round =>
  clear H'
  try clear p2
  obtain ⟨x5_1, x6_1, rfl, HA, HK1, HO_5, HB⟩ := hrel
  cases gk with
  | zero => exact absurd HA.out (by simp [spec_l09Form.l0])
  | succ k1 =>
   have H := HA.out
   clear HA
   simp only [spec_l09Form.l0] at H
   by_cases c5 : x6_1 < (l0.length : Int)
   rotate_left
   ·rw [if_neg c5] at H
    have c5b0 : decide (x6_1 < (l0.length : Int)) = false := decide_eq_false c5
    clear c5
    replace H := Option.bind_eq_some_iff.mp H
    obtain ⟨t301, A110, H⟩ := H
    replace H : ((spec_l09Normal.f k1 t301).bind fun t304 => (some t304)) = some r := H
    have A11 := aM A110
    clear A110
    replace H := Option.bind_eq_some_iff.mp H
    obtain ⟨t304, A120, H⟩ := H
    replace H : (some t304) = some r := H
    have A12 := aM A120
    clear A120
    obtain rfl := Option.some.inj H
    obtain ⟨Ao13, co13, eo13⟩ := Kd.R_slice HO_5.out
    subst eo13
    go_wp2_with (first | ((with_reducible refine gate_callee (f := 30) rfl ?_); refine goesL_ (some 24) rfl rfl Try.func30 (by kernel_rfl) rfl #[.slice Ao13 x5_1.length co13] rfl zm ?_; (with_reducible refine (spec_l09Sort.calls k1 _ _ x5_1 t301 _ ?side1 ?side2 A11.out).mono ?_); (case side1 => exact zc HO_5.out); (case side2 => exact (Kd.R_reads' HO_5.out).2.1); rintro e w14 ⟨v302, rfl, ho0, hb⟩; refine ⟨_, rfl, ?_⟩; have n0_ := aM (Kd.R_elder' (mR_ HO_5.out) (Kd.R_base ho0) hb); have n1_ := aM (Kd.R_lower (Kd.R_new' ho0 (Kd.R_lt (mR_ HO_5.out))) (below_size zb)); have n2_ := aM (below_step zb hb); clear HO_5 HB; have HO_5 := n0_; have HO303 := n1_; have HB := n2_; clear n0_ n1_ n2_; (try clear hb); (try clear hb2); (try clear hk); (try clear hi); (try clear ho0); obtain ⟨Ao15, co15, eo15⟩ := Kd.R_slice HO303.out; subst eo15) | ((with_reducible refine gate_callee (f := 29) rfl ?_); refine goesL_ (some 25) rfl rfl Try.func29 (by kernel_rfl) rfl #[.slice Ao15 t301.length co15] rfl zm ?_; (with_reducible refine (spec_l09Normal.calls k1 _ _ t301 t304 _ ?side1 ?side2 A12.out).mono ?_); (case side1 => exact zc HO303.out); (case side2 => exact (Kd.R_reads' HO303.out).2.1); rintro e w16 ⟨v305, rfl, ho0, hb⟩; refine ⟨_, rfl, ?_⟩; have n0_ := aM (Kd.R_elder' (mR_ HO_5.out) (Kd.R_base ho0) hb); have n1_ := aM (Kd.R_elder' (mR_ HO303.out) (Kd.R_base ho0) hb); have n2_ := aM (Kd.R_lower (Kd.R_new' (Kd.R_new' ho0 (Kd.R_lt (mR_ HO_5.out))) (Kd.R_lt (mR_ HO303.out))) (below_size zb)); have n3_ := aM (below_step zb hb); clear HO_5 HO303 HB; have HO_5 := n0_; have HO303 := n1_; have HO306 := n2_; have HB := n3_; clear n0_ n1_ n2_ n3_; (try clear hb); (try clear hb2); (try clear hk); (try clear hi); (try clear ho0)))
    go_ret
    exact ⟨_, zw, zd1 HO306.out, zb⟩
   rw [if_pos c5] at H
   have c5b0 : decide (x6_1 < (l0.length : Int)) = true := decide_eq_true c5
   clear c5
   by_cases c6 : 0 ≤ x6_1
   rotate_left
   ·rw [if_neg c6] at H
    exact absurd H (by simp)
   rw [if_pos c6] at H
   have c6b0 : decide (0 ≤ x6_1) = true := decide_eq_true c6
   clear c6
   replace H := Option.bind_eq_some_iff.mp H
   obtain ⟨⟨t295, t296, t297⟩, A70, H⟩ := H
   replace H : (if x5_1.length < 5864062014805 then (spec_l09Form.l0 k1 l0 a1 (x5_1 ++ [(⟨t295, t296, t297⟩ : S43)]) (wrap64 (x6_1 + 1))) else (none)) = some r := H
   have A7 := aM A70
   clear A70
   by_cases c8 : x5_1.length < 5864062014805
   rotate_left
   ·rw [if_neg c8] at H
    exact absurd H (by simp)
   rw [if_pos c8] at H
   have LMc8 := aM c8
   clear c8
   obtain ⟨y298, hy298⟩ : ∃ y_ : List (S43), y_ = (x5_1 ++ [(⟨t295, t296, t297⟩ : S43)]) := ⟨_, rfl⟩
   replace H : (spec_l09Form.l0 k1 l0 a1 y298 (wrap64 (x6_1 + 1))) = some r := zy H hy298
   have Ny298 := aM hy298
   clear hy298
   have H' := aM H
   clear H
   have p294 : 0 ≤ (x6_1 : Int) := of_decide_eq_true za
   have q294 : x6_1 < (l0.length : Int) := of_decide_eq_true za
   obtain ⟨ad294, e294, hx294_0, hx294_1, hx294_2⟩ := at_T43 HR0.out x6_1 p294 q294
   cases e294
   replace hx294_0 := zk HB.out hx294_0
   replace hx294_1 := zk HB.out hx294_1
   replace hx294_2 := zk HB.out hx294_2
   replace p294 := eq_true p294
   replace q294 := eq_true q294
   go_wp2_with (first | ((with_reducible refine gate_callee (f := 61) rfl ?_); refine goesL_ (some 20) rfl rfl Try.func61 (by kernel_rfl) rfl #[.agg #[.int .i64 ((rd_T43 l0 x6_1).f0), .int .i64 ((rd_T43 l0 x6_1).f1), .int .i64 ((rd_T43 l0 x6_1).f2)], .int .i64 a1] rfl zm ?_; (with_reducible refine (spec_l09Turn.calls k1 ((rd_T43 l0 x6_1).f0) ((rd_T43 l0 x6_1).f1) ((rd_T43 l0 x6_1).f2) a1 t295 t296 t297 _ A7.out).mono ?_); rintro e w9 ⟨rfl, hb⟩; refine ⟨_, rfl, ?_⟩; have n0_ := aM (Kd.R_below (mR_ HO_5.out) hb); have n1_ := aM (below_step zb hb); clear HO_5 HB; have HO_5 := n0_; have HB := n1_; clear n0_ n1_; (try clear hb); (try clear hb2); (try clear hk); (try clear hi)) | ((with_reducible refine gate_builtin (b := .append) (xs := #[.tmp 14, .tmp 21]) rfl ?_); at_builtin; refine Kd.R_append k43 (w0 := w) w.heap.size rfl (.tmp 14) (.tmp 21) 40 43 (.agg #[(.int .i64 0), (.int .i64 0), (.int .i64 0)]) 24 rfl Try.underlying40 info43 rfl (by decide) (by omega) u5 x5_1 (⟨t295, t296, t297⟩ : S43) [.int .i64 t295, .int .i64 t296, .int .i64 t297] (fun _ => True) (fun _ => False) rfl rfl ?aP (fun _ hk => hk.elim) ?aF ?aO ?aB ?aS ?aL ?_; (case aP => exact k43_mkM _ _ _ (⟨t295, t296, t297⟩ : S43)); (case aB => exact zb); (case aF => exact (fun _ _ => trivial)); (case aO => exact (mR_ HO_5.out)); (case aS => exact (below_size zb)); (case aL => have := LMc8.out; omega); intro v299 w10 ho hb hg hat; rw [← Ny298.out] at ho; have n0_ := aM (hb); have n1_ := aM (ho); clear HB HO_5; have HB := n0_; have HO300 := n1_; clear n0_ n1_; clear ho hb hg hat))
   go_roundg k1
   case measure => have := HK1.out; omega
   case rel => exact ⟨(y298), (wrap64 (x6_1 + 1)), zr, H', ⟨by have := HK1.out; omega⟩, ⟨mR_ HO300.out⟩, ⟨zb⟩⟩
def spec_l09Least.l0 : Nat → List (S43) → Int → List (S43) → Int → Option ((List (S43)))
 | 0, _, _, _, _ => none
 | k + 1, x0, x1, x5, x6 => if x6 < x1 then ((spec_l09Form.f k x0 x6).bind fun t310 => ((spec_l09Compare.f k t310 x5).bind fun t313 => (if t313 < 0 then (spec_l09Least.l0 k x0 x1 t310 (wrap64 (x6 + 1))) else (spec_l09Least.l0 k x0 x1 x5 (wrap64 (x6 + 1)))))) else (some x5)
def spec_l09Least.f (k : Nat) (l0 : List (S43)) (a1 : Int) : Option ((List (S43))) := (spec_l09Form.f k l0 0).bind fun t307 => (spec_l09Least.l0 k l0 a1 t307 1)
theorem spec_l09Least.calls (k : Nat) (A0 : Option Addr) (c0 : Nat) (l0 : List (S43)) (a1 : Int) (r : List (S43)) (w : World) (hr0 : Kd.C k43 w A0 l0.length l0) (hc0 : l0.length ≤ c0) (h : spec_l09Least.f k l0 a1 = some r) :
  Calls Try.prog 32 #[.slice A0 l0.length c0, .int .i64 a1] w fun e w' => ∃ v0_ : Value, e = .returned (v0_) ∧ Kd.R k43 43 w' w.heap.size (fun _ => True) v0_ r ∧ Below w.heap.size w w' := by
 have HR0 := aM hr0
 have HC0 := aM hc0
 clear hr0 hc0
 have HB := aM (Below.refl w.heap.size w)
 have H : ((spec_l09Form.f k l0 0).bind fun t307 => (spec_l09Least.l0 k l0 a1 t307 1)) = some r := h
 clear h
 replace H := Option.bind_eq_some_iff.mp H
 obtain ⟨t307, A30, H⟩ := H
 replace H : (spec_l09Least.l0 k l0 a1 t307 1) = some r := H
 have A3 := aM A30
 clear A30
 have H' := aM H
 clear H
 go_enter Try.func32, Try.ntmps32
 go_wp2_with (first | ((with_reducible refine gate_callee (f := 51) rfl ?_); refine goesL_ (some 9) rfl rfl Try.func51 (by kernel_rfl) rfl #[.slice A0 l0.length c0, .int .i64 0] rfl zm ?_; (with_reducible refine (spec_l09Form.calls k _ _ l0 0 t307 _ ?side1 ?side2 A3.out).mono ?_); (case side1 => repeat (first | exact HR0.out | (with_reducible refine Kd.C_alloc ?_ _) | (with_reducible refine Kd.C_drewN ?_ _) | (with_reducible refine Kd.C_drew ?_))); (case side2 => exact HC0.out); rintro e w4 ⟨v308, rfl, ho0, hb⟩; refine ⟨_, rfl, ?_⟩; have n0_ := aM (Kd.R_lower ho0 (below_size zb)); have n1_ := aM (below_step zb hb); clear HB; have HO309 := n0_; have HB := n1_; clear n0_ n1_; (try clear hb); (try clear hb2); (try clear hk); (try clear hi); (try clear ho0)))
 go_loopg [5, 6] k (fun kq v5 v6 w' => ∃ (x5_1 : List (S43)) (x6_1 : Int), v6 = .int .i64 x6_1 ∧ Aside0 (spec_l09Least.l0 kq l0 a1 x5_1 x6_1 = some r) ∧ Aside0 (kq ≤ k) ∧ Aside0 (Kd.R k43 43 w' w.heap.size (fun _ => True) v5 x5_1) ∧ Aside0 (Below w.heap.size w w'))
 case atStart => exact ⟨(t307), (1), zr, H', ⟨Nat.le_refl _⟩, ⟨mR_ HO309.out⟩, ⟨zb⟩⟩
 case round =>
  clear H'
  try clear p2
  try clear c3
  obtain ⟨x5_1, x6_1, rfl, HA, HK1, HO_5, HB⟩ := hrel
  cases gk with
  | zero => exact absurd HA.out (by simp [spec_l09Least.l0])
  | succ k1 =>
   have H := HA.out
   clear HA
   simp only [spec_l09Least.l0] at H
   by_cases c5 : x6_1 < a1
   rotate_left
   ·rw [if_neg c5] at H
    have c5b0 : decide (x6_1 < a1) = false := decide_eq_false c5
    clear c5
    obtain rfl := Option.some.inj H
    go_wp2
    go_ret
    exact ⟨_, zw, mR_ HO_5.out, zb⟩
   rw [if_pos c5] at H
   have c5b0 : decide (x6_1 < a1) = true := decide_eq_true c5
   clear c5
   replace H := Option.bind_eq_some_iff.mp H
   obtain ⟨t310, A60, H⟩ := H
   replace H : ((spec_l09Compare.f k1 t310 x5_1).bind fun t313 => (if t313 < 0 then (spec_l09Least.l0 k1 l0 a1 t310 (wrap64 (x6_1 + 1))) else (spec_l09Least.l0 k1 l0 a1 x5_1 (wrap64 (x6_1 + 1))))) = some r := H
   have A6 := aM A60
   clear A60
   replace H := Option.bind_eq_some_iff.mp H
   obtain ⟨t313, A70, H⟩ := H
   replace H : (if t313 < 0 then (spec_l09Least.l0 k1 l0 a1 t310 (wrap64 (x6_1 + 1))) else (spec_l09Least.l0 k1 l0 a1 x5_1 (wrap64 (x6_1 + 1)))) = some r := H
   have A7 := aM A70
   clear A70
   by_cases c8 : t313 < 0
   ·rw [if_pos c8] at H
    have c8b0 : decide (t313 < 0) = true := decide_eq_true c8
    clear c8
    have H' := aM H
    clear H
    go_wp2_with (first | ((with_reducible refine gate_callee (f := 51) rfl ?_); refine goesL_ (some 17) rfl rfl Try.func51 (by kernel_rfl) rfl #[.slice A0 l0.length c0, .int .i64 x6_1] rfl zm ?_; (with_reducible refine (spec_l09Form.calls k1 _ _ l0 x6_1 t310 _ ?side1 ?side2 A6.out).mono ?_); (case side1 => repeat (first | exact (Kd.C_below HR0.out HB.out) | (with_reducible refine Kd.C_alloc ?_ _) | (with_reducible refine Kd.C_drewN ?_ _) | (with_reducible refine Kd.C_drew ?_))); (case side2 => exact HC0.out); rintro e w9 ⟨v311, rfl, ho0, hb⟩; refine ⟨_, rfl, ?_⟩; have n0_ := aM (Kd.R_elder' (mR_ HO_5.out) (Kd.R_base ho0) hb); have n1_ := aM (Kd.R_lower (Kd.R_new' ho0 (Kd.R_lt (mR_ HO_5.out))) (below_size zb)); have n2_ := aM (below_step zb hb); clear HO_5 HB; have HO_5 := n0_; have HO312 := n1_; have HB := n2_; clear n0_ n1_ n2_; (try clear hb); (try clear hb2); (try clear hk); (try clear hi); (try clear ho0); obtain ⟨Ao10, co10, eo10⟩ := Kd.R_slice HO312.out; subst eo10; obtain ⟨Ao11, co11, eo11⟩ := Kd.R_slice HO_5.out; subst eo11) | ((with_reducible refine gate_callee (f := 31) rfl ?_); refine goesL_ (some 20) rfl rfl Try.func31 (by kernel_rfl) rfl #[.slice Ao10 t310.length co10, .slice Ao11 x5_1.length co11] rfl zm ?_; (with_reducible refine (spec_l09Compare.calls k1 _ _ t310 _ _ x5_1 t313 _ ?side1 ?side2 ?side3 ?side4 A7.out).mono ?_); (case side1 => exact zc HO312.out); (case side2 => exact (Kd.R_reads' HO312.out).2.1); (case side3 => exact zc HO_5.out); (case side4 => exact (Kd.R_reads' HO_5.out).2.1); rintro e w12 ⟨rfl, hb⟩; refine ⟨_, rfl, ?_⟩; have n0_ := aM (Kd.R_below (mR_ HO_5.out) hb); have n1_ := aM (Kd.R_below (mR_ HO312.out) hb); have n2_ := aM (below_step zb hb); clear HO_5 HO312 HB; have HO_5 := n0_; have HO312 := n1_; have HB := n2_; clear n0_ n1_ n2_; (try clear hb); (try clear hb2); (try clear hk); (try clear hi)))
    go_roundg k1
    case measure => have := HK1.out; omega
    case rel => exact ⟨(t310), (wrap64 (x6_1 + 1)), zr, H', ⟨by have := HK1.out; omega⟩, ⟨zd1 HO312.out⟩, ⟨zb⟩⟩
   rw [if_neg c8] at H
   have c8b0 : decide (t313 < 0) = false := decide_eq_false c8
   clear c8
   have H' := aM H
   clear H
   go_wp2_with (first | ((with_reducible refine gate_callee (f := 51) rfl ?_); refine goesL_ (some 17) rfl rfl Try.func51 (by kernel_rfl) rfl #[.slice A0 l0.length c0, .int .i64 x6_1] rfl zm ?_; (with_reducible refine (spec_l09Form.calls k1 _ _ l0 x6_1 t310 _ ?side1 ?side2 A6.out).mono ?_); (case side1 => repeat (first | exact (Kd.C_below HR0.out HB.out) | (with_reducible refine Kd.C_alloc ?_ _) | (with_reducible refine Kd.C_drewN ?_ _) | (with_reducible refine Kd.C_drew ?_))); (case side2 => exact HC0.out); rintro e w13 ⟨v311, rfl, ho0, hb⟩; refine ⟨_, rfl, ?_⟩; have n0_ := aM (Kd.R_elder' (mR_ HO_5.out) (Kd.R_base ho0) hb); have n1_ := aM (Kd.R_lower (Kd.R_new' ho0 (Kd.R_lt (mR_ HO_5.out))) (below_size zb)); have n2_ := aM (below_step zb hb); clear HO_5 HB; have HO_5 := n0_; have HO312 := n1_; have HB := n2_; clear n0_ n1_ n2_; (try clear hb); (try clear hb2); (try clear hk); (try clear hi); (try clear ho0); obtain ⟨Ao14, co14, eo14⟩ := Kd.R_slice HO312.out; subst eo14; obtain ⟨Ao15, co15, eo15⟩ := Kd.R_slice HO_5.out; subst eo15) | ((with_reducible refine gate_callee (f := 31) rfl ?_); refine goesL_ (some 20) rfl rfl Try.func31 (by kernel_rfl) rfl #[.slice Ao14 t310.length co14, .slice Ao15 x5_1.length co15] rfl zm ?_; (with_reducible refine (spec_l09Compare.calls k1 _ _ t310 _ _ x5_1 t313 _ ?side1 ?side2 ?side3 ?side4 A7.out).mono ?_); (case side1 => exact zc HO312.out); (case side2 => exact (Kd.R_reads' HO312.out).2.1); (case side3 => exact zc HO_5.out); (case side4 => exact (Kd.R_reads' HO_5.out).2.1); rintro e w16 ⟨rfl, hb⟩; refine ⟨_, rfl, ?_⟩; have n0_ := aM (Kd.R_below (mR_ HO_5.out) hb); have n1_ := aM (Kd.R_below (mR_ HO312.out) hb); have n2_ := aM (below_step zb hb); clear HO_5 HO312 HB; have HO_5 := n0_; have HO312 := n1_; have HB := n2_; clear n0_ n1_ n2_; (try clear hb); (try clear hb2); (try clear hk); (try clear hi)))
   go_roundg k1
   case measure => have := HK1.out; omega
   case rel => exact ⟨(x5_1), (wrap64 (x6_1 + 1)), zr, H', ⟨by have := HK1.out; omega⟩, ⟨zd1 HO_5.out⟩, ⟨zb⟩⟩
def spec_l09Turns.f (a0 : Bool) : Option (Int) := if a0 = true then (some 48) else (some 24)
theorem spec_l09Turns.calls (a0 : Bool) (r : Int) (w : World) (h : spec_l09Turns.f a0 = some r) :
  Calls Try.prog 33 #[.bool a0] w fun e w' => e = .returned (.int .i64 r) ∧ Drawn0 w w' := by
 have H : (if a0 = true then (some 48) else (some 24)) = some r := h
 clear h
 by_cases c2 : a0 = true
 ·subst c2
  have H1 : (some 48) = some r := by rw [if_pos rfl] at H; exact H
  clear H
  have H := H1
  clear H1
  obtain rfl := Option.some.inj H
  go_enter Try.func33, Try.ntmps33
  go_wp2
  go_ret
  exact ⟨by first | rfl | (simp; done) | (simp [*]; done), by repeat (first | exact Drawn0.refl _ | apply Drawn0.step)⟩
 replace c2 := Bool.eq_false_iff.mpr c2
 subst c2
 have H1 : (some 24) = some r := by rw [if_neg (show ¬ (false = true) by decide)] at H; exact H
 clear H
 have H := H1
 clear H1
 obtain rfl := Option.some.inj H
 go_enter Try.func33, Try.ntmps33
 go_wp2
 go_ret
 exact ⟨by first | rfl | (simp; done) | (simp [*]; done), by repeat (first | exact Drawn0.refl _ | apply Drawn0.step)⟩
end Go.Proofs.Ytlompfboheiliaa.F
end
section
namespace Go.Proofs.Ytlompfboheiliaa.F
open Go.RowKit Go.Proofs.YtlompfboheiliaaW.PrintWords Go.Proofs.YtlompfboheiliaaW.PrintLast Go.Proofs.YtlompfboheiliaaW.PrintMore
attribute [local go_sem] max2_int min2_int max_two min_two max_three min_three max_four min_four
set_option linter.unusedVariables false
set_option linter.unusedSimpArgs false
attribute [local go_sem high] eqA43
def spec_l09Own.l0 : Nat → List (List (S43)) → Bool → List (List (S43)) → Int → Option ((List (List (S43))))
 | 0, _, _, _, _ => none
 | k + 1, x0, x1, x5, x6 => if x6 < (x0.length : Int) then (if 0 ≤ x6 then ((spec_l09Turns.f x1).bind fun t318 => ((spec_l09Least.f k (rd_L2 x0 x6) t318).bind fun t319 => ((spec_l09Compare.f k t319 (rd_L2 x0 x6)).bind fun t323 => (if t323 = 0 then (if x5.length < 5864062014805 then (spec_l09Own.l0 k x0 x1 (x5 ++ [rd_L2 x0 x6]) (wrap64 (x6 + 1))) else (none)) else (spec_l09Own.l0 k x0 x1 x5 (wrap64 (x6 + 1))))))) else (none)) else (some x5)
def spec_l09Own.f (k : Nat) (l0 : List (List (S43))) (a1 : Bool) : Option ((List (List (S43)))) := spec_l09Own.l0 k l0 a1 (([] : List (List (S43)))) 0
def spec_l09Own.T5 : Bool × List (List Nat × List Nat) := (true, [([], []), ([], []), ([0, 1], [0, 1]), ([2], [2]), ([], []), ([4], [4]), ([3, 5, 5], [3, 5]), ([], []), ([], []), ([7, 8], [7, 8]), ([9], [9]), ([6, 10, 6], [6, 10]), ([11], [11])])
def spec_l09Own.B5 : List Nat := [0, 0, 3, 7, 0, 16, 63, 0, 0, 384, 896, 2047, 4095]
theorem spec_l09Own.tab5 : rtab .any (opsOf Try.f17 5) = spec_l09Own.T5 := by kernel_rfl
theorem spec_l09Own.bits5 : waitsOk spec_l09Own.T5.2 spec_l09Own.B5 = true := by kernel_rfl
end Go.Proofs.Ytlompfboheiliaa.F
end
