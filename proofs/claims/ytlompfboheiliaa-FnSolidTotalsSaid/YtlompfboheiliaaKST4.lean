/- The row of FnSolidTotals, with what it needs: text 5 of 12. -/
import Derived.Test.YtlompfboheiliaaKST3
set_option maxHeartbeats 8000000
set_option maxRecDepth 100000
section
namespace Go.Proofs.Ytlompfboheiliaa.F
open Go.RowKit Go.Proofs.YtlompfboheiliaaW.PrintWords Go.Proofs.YtlompfboheiliaaW.PrintLast Go.Proofs.YtlompfboheiliaaW.PrintMore
attribute [local go_sem] max2_int min2_int max_two min_two max_three min_three max_four min_four
set_option linter.unusedVariables false
set_option linter.unusedSimpArgs false
abbrev spec_l09Sort.c3 (w : World) (a : Addr) (i : Int) (l : List S43) (R : Prop) : Prop := w.cell? (a.add (i.toNat * 3)) = some (.int .i64 ((rd_T43 l i).f0)) ∧ w.cell? ⟨(a.add (i.toNat * 3)).block, (a.add (i.toNat * 3)).off + 1, none⟩ = some (.int .i64 ((rd_T43 l i).f1)) ∧ w.cell? ⟨(a.add (i.toNat * 3)).block, (a.add (i.toNat * 3)).off + 2, none⟩ = some (.int .i64 ((rd_T43 l i).f2)) ∧ R
abbrev spec_l09Sort.d3 (w : World) (a : Addr) (i : Int) (l : List S43) : Prop := w.cell? (a.add (i.toNat * 3)) = some (.int .i64 ((rd_T43 l i).f0)) ∧ w.cell? ⟨(a.add (i.toNat * 3)).block, (a.add (i.toNat * 3)).off + 1, none⟩ = some (.int .i64 ((rd_T43 l i).f1)) ∧ w.cell? ⟨(a.add (i.toNat * 3)).block, (a.add (i.toNat * 3)).off + 2, none⟩ = some (.int .i64 ((rd_T43 l i).f2))
theorem spec_l09Sort.calls (k : Nat) (A0 : Option Addr) (c0 : Nat) (l0 : List (S43)) (r : List (S43)) (w : World) (hr0 : Kd.C k43 w A0 l0.length l0) (hc0 : l0.length ≤ c0) (h : spec_l09Sort.f k l0 = some r) :
  Calls Try.prog 30 #[.slice A0 l0.length c0] w fun e w' => ∃ v0_ : Value, e = .returned (v0_) ∧ Kd.R k43 43 w' w.heap.size (fun _ => True) v0_ r ∧ Below w.heap.size w w' := by
 have hu43 := Try.underlying43
 have HR0 := aM hr0
 have HC0 := aM hc0
 clear hr0 hc0
 have HB := aM (Below.refl w.heap.size w)
 have H : (spec_l09Sort.l0 k l0 (([] : List (S43))) 0) = some r := h
 clear h
 obtain ⟨y191, hy191⟩ : ∃ y_ : List (S43), y_ = (([] : List (S43))) := ⟨_, rfl⟩
 replace H : (spec_l09Sort.l0 k l0 y191 0) = some r := zy H hy191
 have Ny191 := aM hy191
 clear hy191
 have H' := aM H
 clear H
 go_enter Try.func30, Try.ntmps30
 go_wp2_with (first | ((with_reducible refine gate_dst (N := 6) rfl ?_); refine Kd.R_lit k43 _ 43 ?hg (N := 6) ?hd (xs := ([] : List (S43))) (inner := []) (ok := fun _ => True) (okp := fun _ => True) ?hr ?hp (fun _ hk => hk) trivial (Below.refl _ _) (Nat.le_refl _) (by simp) ?_; (case hd => rfl); (case hg => rfl); (case hr => first | (go_simp; done) | (go_simp; rfl)); (case hp => exact (Reps.none _ _)); intro v192 w2 ho3 hb hg_ hnew_; clear hg_ hnew_; (first | rw [← Ny191.out] at ho3 | (simp only [Int.reduceToNat] at ho3; rw [← Ny191.out] at ho3)); have n0_ := aM (Kd.R_lower ho3 (below_size zb)); have n1_ := aM (below_step zb hb); clear HB; have HO193 := n0_; have HB := n1_; clear n0_ n1_; clear hb ho3))
 go_loopg [3, 4] k (fun kq v3 v4 w' => ∃ (x3_1 : List (S43)) (x4_1 : Int), v4 = .int .i64 x4_1 ∧ Aside0 (spec_l09Sort.l0 kq l0 x3_1 x4_1 = some r) ∧ Aside0 (kq ≤ k) ∧ Aside0 (Kd.R k43 43 w' w.heap.size (fun _ => True) v3 x3_1) ∧ Aside0 (Below w.heap.size w w'))
 case atStart => exact ⟨(y191), (0), zr, H', ⟨Nat.le_refl _⟩, ⟨mR_ HO193.out⟩, ⟨zb⟩⟩
 case round =>
  clear H'
  try clear p2
  try clear c3
  obtain ⟨x3_1, x4_1, rfl, HA, HK1, HO_3, HB⟩ := hrel
  cases gk with
  | zero => exact absurd HA.out (by simp [spec_l09Sort.l0])
  | succ k1 =>
   have H := HA.out
   clear HA
   simp only [spec_l09Sort.l0] at H
   by_cases c4 : x4_1 < (l0.length : Int)
   rotate_left
   ·rw [if_neg c4] at H
    have c4b0 : decide (x4_1 < (l0.length : Int)) = false := decide_eq_false c4
    clear c4
    obtain rfl := Option.some.inj H
    go_wp2
    go_ret
    exact ⟨_, zw, mR_ HO_3.out, zb⟩
   rw [if_pos c4] at H
   have c4b0 : decide (x4_1 < (l0.length : Int)) = true := decide_eq_true c4
   clear c4
   have H' := aM H
   clear H
   go_wp2
   go_loopg [5] k1 (fun kq v5 w' => ∃ (x5_2 : Int), v5 = .int .i64 x5_2 ∧ Aside0 (spec_l09Sort.l1 kq l0 x3_1 x4_1 x5_2 = some r) ∧ Aside0 (kq ≤ k1) ∧ Aside0 (Kd.R k43 43 w' w.heap.size (fun _ => True) u3 x3_1) ∧ Aside0 (Below w.heap.size w w'))
   case atStart => exact ⟨(0), zr, H', ⟨Nat.le_refl _⟩, ⟨mR_ HO_3.out⟩, ⟨zb⟩⟩
   case round =>
    clear H'
    try clear p2
    try clear c3
    try clear c4
    try clear c4b0
    try clear p2
    obtain ⟨x5_2, rfl, HA, HK2, HO_3, HB⟩ := hrel
    cases gk with
    | zero => exact absurd HA.out (by simp [spec_l09Sort.l1])
    | succ k2 =>
     have H := HA.out
     clear HA
     simp only [spec_l09Sort.l1] at H
     by_cases c5 : x5_2 < (x3_1.length : Int)
     rotate_left
     ·rw [if_neg c5] at H
      have c5b0 : decide (x5_2 < (x3_1.length : Int)) = false := decide_eq_false c5
      clear c5
      obtain ⟨y221, hy221⟩ : ∃ y_ : List (S43), y_ = (([] : List (S43))) := ⟨_, rfl⟩
      replace H : (if 0 ≤ x5_2 then (if x5_2 ≤ (x3_1.length : Int) then ((some (x3_1.take (x5_2 : Int).toNat : List (S43))).bind fun y224 => (if y221.length + y224.length < 5864062014805 then ((some (y221 ++ y224 : List (S43))).bind fun y228 => (if 0 ≤ x4_1 then (if x4_1 < (l0.length : Int) then ((some (([(⟨(rd_T43 l0 x4_1).f0, (rd_T43 l0 x4_1).f1, (rd_T43 l0 x4_1).f2⟩ : S43)] : List (S43)) : List (S43))).bind fun y232 => (if y228.length + y232.length < 5864062014805 then ((some (y228 ++ y232 : List (S43))).bind fun y235 => ((some (x3_1.drop (x5_2 : Int).toNat : List (S43))).bind fun y238 => (if y235.length + y238.length < 5864062014805 then (spec_l09Sort.l0 k2 l0 (y235 ++ y238) (wrap64 (x4_1 + 1))) else (none)))) else (none))) else (none)) else (none))) else (none))) else (none)) else (none)) = some r := zy H hy221
      have Ny221 := aM hy221
      clear hy221
      by_cases c36 : 0 ≤ x5_2
      rotate_left
      ·rw [if_neg c36] at H
       exact absurd H (by simp)
      rw [if_pos c36] at H
      have c36b0 := eq_true c36
      have c36b1 : decide (0 ≤ x5_2) = true := decide_eq_true c36
      clear c36
      by_cases c37 : x5_2 ≤ (x3_1.length : Int)
      rotate_left
      ·rw [if_neg c37] at H
       exact absurd H (by simp)
      rw [if_pos c37] at H
      have c37b0 := eq_true c37
      have c37b1 : decide (x5_2 ≤ (x3_1.length : Int)) = true := decide_eq_true c37
      clear c37
      obtain ⟨y224, hy224⟩ : ∃ y_ : List (S43), y_ = (x3_1.take (x5_2 : Int).toNat) := ⟨_, rfl⟩
      replace H : (if y221.length + y224.length < 5864062014805 then ((some (y221 ++ y224 : List (S43))).bind fun y228 => (if 0 ≤ x4_1 then (if x4_1 < (l0.length : Int) then ((some (([(⟨(rd_T43 l0 x4_1).f0, (rd_T43 l0 x4_1).f1, (rd_T43 l0 x4_1).f2⟩ : S43)] : List (S43)) : List (S43))).bind fun y232 => (if y228.length + y232.length < 5864062014805 then ((some (y228 ++ y232 : List (S43))).bind fun y235 => ((some (x3_1.drop (x5_2 : Int).toNat : List (S43))).bind fun y238 => (if y235.length + y238.length < 5864062014805 then (spec_l09Sort.l0 k2 l0 (y235 ++ y238) (wrap64 (x4_1 + 1))) else (none)))) else (none))) else (none)) else (none))) else (none)) = some r := zy H hy224
      have Ny224 := aM hy224
      clear hy224
      by_cases c38 : y221.length + y224.length < 5864062014805
      rotate_left
      ·rw [if_neg c38] at H
       exact absurd H (by simp)
      rw [if_pos c38] at H
      have LMc38 := aM c38
      clear c38
      obtain ⟨y228, hy228⟩ : ∃ y_ : List (S43), y_ = (y221 ++ y224) := ⟨_, rfl⟩
      replace H : (if 0 ≤ x4_1 then (if x4_1 < (l0.length : Int) then ((some (([(⟨(rd_T43 l0 x4_1).f0, (rd_T43 l0 x4_1).f1, (rd_T43 l0 x4_1).f2⟩ : S43)] : List (S43)) : List (S43))).bind fun y232 => (if y228.length + y232.length < 5864062014805 then ((some (y228 ++ y232 : List (S43))).bind fun y235 => ((some (x3_1.drop (x5_2 : Int).toNat : List (S43))).bind fun y238 => (if y235.length + y238.length < 5864062014805 then (spec_l09Sort.l0 k2 l0 (y235 ++ y238) (wrap64 (x4_1 + 1))) else (none)))) else (none))) else (none)) else (none)) = some r := zy H hy228
      have Ny228 := aM hy228
      clear hy228
      by_cases c39 : 0 ≤ x4_1
      rotate_left
      ·rw [if_neg c39] at H
       exact absurd H (by simp)
      rw [if_pos c39] at H
      have c39b0 : decide (0 ≤ x4_1) = true := decide_eq_true c39
      clear c39
      by_cases c40 : x4_1 < (l0.length : Int)
      rotate_left
      ·rw [if_neg c40] at H
       exact absurd H (by simp)
      rw [if_pos c40] at H
      have c40b0 : decide (x4_1 < (l0.length : Int)) = true := decide_eq_true c40
      clear c40
      obtain ⟨y232, hy232⟩ : ∃ y_ : List (S43), y_ = (([(⟨(rd_T43 l0 x4_1).f0, (rd_T43 l0 x4_1).f1, (rd_T43 l0 x4_1).f2⟩ : S43)] : List (S43))) := ⟨_, rfl⟩
      replace H : (if y228.length + y232.length < 5864062014805 then ((some (y228 ++ y232 : List (S43))).bind fun y235 => ((some (x3_1.drop (x5_2 : Int).toNat : List (S43))).bind fun y238 => (if y235.length + y238.length < 5864062014805 then (spec_l09Sort.l0 k2 l0 (y235 ++ y238) (wrap64 (x4_1 + 1))) else (none)))) else (none)) = some r := zy H hy232
      have Ny232 := aM hy232
      clear hy232
      by_cases c41 : y228.length + y232.length < 5864062014805
      rotate_left
      ·rw [if_neg c41] at H
       exact absurd H (by simp)
      rw [if_pos c41] at H
      have LMc41 := aM c41
      clear c41
      obtain ⟨y235, hy235⟩ : ∃ y_ : List (S43), y_ = (y228 ++ y232) := ⟨_, rfl⟩
      replace H : ((some (x3_1.drop (x5_2 : Int).toNat : List (S43))).bind fun y238 => (if y235.length + y238.length < 5864062014805 then (spec_l09Sort.l0 k2 l0 (y235 ++ y238) (wrap64 (x4_1 + 1))) else (none))) = some r := zy H hy235
      have Ny235 := aM hy235
      clear hy235
      have c42b0 := eq_true (of_decide_eq_true za : 0 ≤ x5_2)
      have c43b0 := eq_true (of_decide_eq_true za : x5_2 ≤ (x3_1.length : Int))
      obtain ⟨y238, hy238⟩ : ∃ y_ : List (S43), y_ = (x3_1.drop (x5_2 : Int).toNat) := ⟨_, rfl⟩
      replace H : (if y235.length + y238.length < 5864062014805 then (spec_l09Sort.l0 k2 l0 (y235 ++ y238) (wrap64 (x4_1 + 1))) else (none)) = some r := zy H hy238
      have Ny238 := aM hy238
      clear hy238
      by_cases c44 : y235.length + y238.length < 5864062014805
      rotate_left
      ·rw [if_neg c44] at H
       exact absurd H (by simp)
      rw [if_pos c44] at H
      have LMc44 := aM c44
      clear c44
      obtain ⟨y242, hy242⟩ : ∃ y_ : List (S43), y_ = (y235 ++ y238) := ⟨_, rfl⟩
      replace H : (spec_l09Sort.l0 k2 l0 y242 (wrap64 (x4_1 + 1))) = some r := zy H hy242
      have Ny242 := aM hy242
      clear hy242
      have H' := aM H
      clear H
      try go_wp2
      have n0_ := aM (Kd.R_drew HO_3.out)
      have n1_ := aM (below_drew1 HB.out)
      clear HO_3
      clear HB
      have HO_3 := n0_
      have HB := n1_
      clear n0_ n1_
      obtain ⟨Ao46, co46, eo46⟩ := Kd.R_slice HO_3.out
      (first | subst eo46 | (injection eo46 with f1_ f2_ f3_; have f4_ := f1_.symm; have f5_ := f3_.symm; clear f1_ f2_ f3_; subst f4_; subst f5_))
      refine start_ (n := 15) (S := fun w' => True) (ds := []) zA32 (by kernel_rfl) rfl rfl trivial (fun hHeld => ?_); refine with_tabW spec_l09Sort.tab6 spec_l09Sort.bits6 (fun HT_ HW_ => ?_)
      generalize wr.drew = w45 at HO_3 HB hHeld ⊢
      refine zp 0 (some 13) ?_ zA33 rfl rfl (Or.inl ⟨by rfl, ?_⟩) ?_ ?_ ?_
      rotate_left
      ·intro w'
       go_simp
       with_reducible rfl
      rotate_left
      ·simp only [Act.put, xA, xB, xC, i64_w, i32_w]
       rfl
      refine zp 1 (some 14) ?_ zA34 rfl rfl (Or.inl ⟨by rfl, ?_⟩) ?_ ?_ ?_
      rotate_left
      ·intro w'
       go_simp
       with_reducible rfl
      rotate_left
      ·simp only [Act.put, xA, xB, xC, i64_w, i32_w]
       rfl
      refine zp 2 (some 15) ?_ zA35 rfl rfl (Or.inl ⟨by rfl, ?_⟩) ?_ ?_ ?_
      rotate_left
      ·intro w'
       go_simp
       with_reducible rfl
      rotate_left
      ·simp only [Act.put, xA, xB, xC, i64_w, i32_w]
       rfl
      refine zp 3 (some 16) ?_ zA36 rfl rfl (Or.inl ⟨by rfl, ?_⟩) ?_ ?_ ?_
      rotate_left
      ·intro w'
       go_simp
       with_reducible rfl
      rotate_left
      ·simp only [Act.put, xA, xB, xC, i64_w, i32_w]
       rfl
      refine zp 4 (some 17) ?_ zA37 rfl rfl (Or.inl ⟨by rfl, ?_⟩) ?_ ?_ ?_
      rotate_left
      ·intro w'
       go_simp
       with_reducible rfl
      rotate_left
      ·simp only [Act.put, xA, xB, xC, i64_w, i32_w]
       rfl
      refine zp 5 (some 18) undef zA38 rfl rfl (Or.inr ⟨by rfl, rfl⟩) ?_ ?_ ?_
      rotate_left
      ·simp only [Act.put, xA, xB, xC, i64_w, i32_w]
       rfl
      refine zp 6 (some 19) undef zA39 rfl rfl (Or.inr ⟨by rfl, rfl⟩) ?_ ?_ ?_
      rotate_left
      ·simp only [Act.put, xA, xB, xC, i64_w, i32_w]
       rfl
      refine zp 7 (some 20) undef zA40 rfl rfl (Or.inr ⟨by rfl, rfl⟩) ?_ ?_ ?_
      rotate_left
      ·simp only [Act.put, xA, xB, xC, i64_w, i32_w]
       rfl
      refine zp 8 (some 21) undef zA41 rfl rfl (Or.inr ⟨by rfl, rfl⟩) ?_ ?_ ?_
      rotate_left
      ·simp only [Act.put, xA, xB, xC, i64_w, i32_w]
       rfl
      refine zp 9 (some 22) undef zA42 rfl rfl (Or.inr ⟨by rfl, rfl⟩) ?_ ?_ ?_
      rotate_left
      ·simp only [Act.put, xA, xB, xC, i64_w, i32_w]
       rfl
      refine zp 10 (some 23) undef zA43 rfl rfl (Or.inr ⟨by rfl, rfl⟩) ?_ ?_ ?_
      rotate_left
      ·simp only [Act.put, xA, xB, xC, i64_w, i32_w]
       rfl
      refine zp 11 (some 24) undef zA44 rfl rfl (Or.inr ⟨by rfl, rfl⟩) ?_ ?_ ?_
      rotate_left
      ·simp only [Act.put, xA, xB, xC, i64_w, i32_w]
       rfl
      refine zp 12 (some 25) undef zA45 rfl rfl (Or.inr ⟨by rfl, rfl⟩) ?_ ?_ ?_
      rotate_left
      ·simp only [Act.put, xA, xB, xC, i64_w, i32_w]
       rfl
      refine zp 13 (some 26) undef zA46 rfl rfl (Or.inr ⟨by rfl, rfl⟩) ?_ ?_ ?_
      rotate_left
      ·simp only [Act.put, xA, xB, xC, i64_w, i32_w]
       rfl
      refine zp 14 (some 27) ?_ zA47 rfl rfl (Or.inl ⟨by rfl, ?_⟩) ?_ ?_ ?_
      rotate_left
      ·intro w'
       go_simp
       with_reducible rfl
      rotate_left
      ·simp only [Act.put, xA, xB, xC, i64_w, i32_w]
       rfl
      refine done_ (done_of HT_.out (by kernel_rfl)) ?_
      try go_wp2
      have n0_ := aM (Kd.R_drew HO_3.out)
      have n1_ := aM (below_drew1 HB.out)
      clear HO_3
      clear HB
      have HO_3 := n0_
      have HB := n1_
      clear n0_ n1_
      have q48 : (x5_2 : Int) ≤ ((x3_1.length : Int) : Int) := of_decide_eq_true za
      obtain ⟨i048, hi048, _, hsz48, _⟩ := info_parts info43
      have hroom48 : x3_1.length ≤ co46 := (Kd.R_reads' HO_3.out).2.1
      have hC48 : Kd.C k43 _ Ao46 x3_1.length x3_1 := (Kd.R_reads' HO_3.out).2.2
      have hcut48 := cut_to (P := Try.prog) 40 43 .i64 Try.underlying40 hi048 Ao46 x3_1.length co46 x5_2 (of_decide_eq_true za) q48 hroom48
      have hr48 := Kd.C_take (m := (x5_2 : Int).toNat) hC48 (by omega)
      have hy48 : y224.length = (x5_2 : Int).toNat := (by rw [Ny224.out, List.length_take]; omega)
      rw [← Ny224.out] at hr48
      rw [← hy48] at hcut48
      have HR227 := aM hr48
      have HC227 := aM (show y224.length ≤ co46 from by omega)
      clear hr48 hC48 hroom48 hi048 hsz48
      have KY48 := aM hy48
      clear hy48
      have KL48 := aM (show (x5_2 : Int).toNat ≤ x3_1.length from by omega)
      replace q48 := eq_true q48
      have p231 : 0 ≤ (x4_1 : Int) := of_decide_eq_true za
      have q231 : x4_1 < (l0.length : Int) := of_decide_eq_true za
      obtain ⟨ad231, e231, hx231_0, hx231_1, hx231_2⟩ := at_T43 HR0.out x4_1 p231 q231
      have hw231_2 := hx231_2
      have hw231_1 := hx231_1
      have hw231_0 := hx231_0
      cases e231
      replace hx231_0 := zk HB.out hx231_0
      replace hx231_1 := zk HB.out hx231_1
      replace hx231_2 := zk HB.out hx231_2
      replace p231 := eq_true p231
      replace q231 := eq_true q231
      have q49 : (x5_2 : Int) ≤ ((x3_1.length : Int) : Int) := of_decide_eq_true za
      obtain ⟨i049, hi049, _, hsz49, _⟩ := info_parts info43
      have hroom49 : x3_1.length ≤ co46 := (Kd.R_reads' HO_3.out).2.1
      have hC49 : Kd.C k43 _ Ao46 x3_1.length x3_1 := (Kd.R_reads' HO_3.out).2.2
      have q049 : (0 : Int) ≤ (x5_2 : Int) := of_decide_eq_true za
      have hcut49 := cut_from (P := Try.prog) 40 43 .i64 Try.underlying40 hi049 3 hsz49 Ao46 x3_1.length co46 x5_2 q049 q49
      have hr49 := Kd.C_drop (m := (x5_2 : Int).toNat) (c := co46) hC49 (by omega) hroom49
      obtain ⟨A49, hA49⟩ : ∃ A1, A1 = (if co46 = (x5_2 : Int).toNat then Ao46 else (Ao46 : Option Addr).map (·.add ((x5_2 : Int).toNat * 3))) := ⟨_, rfl⟩
      obtain ⟨c49, hc49⟩ : ∃ c1, c1 = co46 - (x5_2 : Int).toNat := ⟨_, rfl⟩
      have hy49 : y238.length = x3_1.length - (x5_2 : Int).toNat := (by rw [Ny238.out, List.length_drop] <;> omega)
      rw [show (x3_1).drop (x5_2 : Int).toNat = y238 from Ny238.out.symm] at hr49
      replace hr49 : Kd.C k43 _ A49 y238.length y238 := (by rw [hA49]; exact hr49)
      rw [← hy49, ← hA49, ← hc49] at hcut49
      have HR241 := aM hr49
      have HC241 := aM (show y238.length ≤ c49 from by rw [hy49, hc49]; exact Nat.sub_le_sub_right hroom49 _)
      clear hr49 hC49 hroom49 hi049 hsz49 hc49
      have KY49 := aM hy49
      have KA49 := aM hA49
      clear hy49 hA49
      have KL49 := aM (show (x5_2 : Int).toNat ≤ x3_1.length from by omega)
      replace q49 := eq_true q49
      refine start_ (n := 16) (S := fun w' => (spec_l09Sort.d3 w' ad231 x4_1 l0)) (ds := []) zA48 (by kernel_rfl) rfl rfl ⟨(zk HB.out hw231_0), (zk HB.out hw231_1), (zk HB.out hw231_2)⟩ (fun hHeld => ?_); refine with_tabW spec_l09Sort.tab8 spec_l09Sort.bits8 (fun HT_ HW_ => ?_)
      generalize w45.drew = w47 at HO_3 HB HR227 HR241 hx231_0 hx231_1 hx231_2 hHeld ⊢
      refine zp 1 (some 31) ?_ zA49 rfl rfl (Or.inl ⟨by rfl, ?_⟩) ?_ ?_ ?_
      rotate_left
      ·intro w'
       go_simp
       with_reducible rfl
      rotate_left
      ·simp only [Act.put, xA, xB, xC, i64_w, i32_w]
       rfl
      refine zp 2 (some 32) ?_ zA50 rfl rfl (Or.inl ⟨by rfl, ?_⟩) ?_ ?_ ?_
      rotate_left
      ·intro w'
       go_simp
       with_reducible rfl
      rotate_left
      ·simp only [Act.put, xA, xB, xC, i64_w, i32_w]
       rfl
      refine zp 3 (some 33) ?_ zA51 rfl rfl (Or.inl ⟨by rfl, ?_⟩) ?_ ?_ ?_
      rotate_left
      ·intro w'
       go_simp
       with_reducible rfl
      rotate_left
      ·simp only [Act.put, xA, xB, xC, i64_w, i32_w]
       rfl
      refine zp 5 (some 35) ?_ zA52 rfl rfl (Or.inl ⟨by rfl, ?_⟩) ?_ ?_ ?_
      rotate_left
      ·intro w'
       go_simp
       with_reducible rfl
      rotate_left
      ·simp only [Act.put, xA, xB, xC, i64_w, i32_w]
       rfl
      refine zp 6 (some 36) ?_ zA53 rfl rfl (Or.inl ⟨by rfl, ?_⟩) ?_ ?_ ?_
      rotate_left
      ·intro w'
       go_simp
       with_reducible rfl
      rotate_left
      ·simp only [Act.put, xA, xB, xC, i64_w, i32_w]
       rfl
      refine zp 7 (some 37) ?_ zA54 rfl rfl (Or.inl ⟨by rfl, ?_⟩) ?_ ?_ ?_
      rotate_left
      ·intro w'
       go_simp
       with_reducible rfl
      rotate_left
      ·simp only [Act.put, xA, xB, xC, i64_w, i32_w]
       rfl
      refine zp 11 (some 41) ?_ zA55 rfl rfl (Or.inl ⟨by rfl, ?_⟩) ?_ ?_ ?_
      rotate_left
      ·intro w'
       go_simp
       with_reducible rfl
      rotate_left
      ·simp only [Act.put, xA, xB, xC, i64_w, i32_w]
       rfl
      refine zp 12 (some 42) ?_ zA56 rfl rfl (Or.inl ⟨by rfl, ?_⟩) ?_ ?_ ?_
      rotate_left
      ·intro w'
       go_simp
       with_reducible rfl
      rotate_left
      ·simp only [Act.put, xA, xB, xC, i64_w, i32_w]
       rfl
      refine zp 13 (some 43) ?_ zA57 rfl rfl (Or.inl ⟨by rfl, ?_⟩) ?_ ?_ ?_
      rotate_left
      ·intro w'
       go_simp
       with_reducible rfl
      rotate_left
      ·simp only [Act.put, xA, xB, xC, i64_w, i32_w]
       rfl
      refine zu 8 (some 38) ?_ zA58 rfl rfl (Or.inl ⟨by rfl, ?_⟩) hHeld ?_ ?_ ?_
      rotate_left
      ·rintro w' ⟨s0, s1, s2⟩
       go_simp
       with_reducible rfl
      rotate_left
      ·simp only [Act.put, xA, xB, xC, i64_w, i32_w]
       rfl
      refine join_ (σ := Value × Value × Value) 3 zA59 (fun s_ => [(30, s_.1), (34, s_.2.1), (39, s_.2.2)]) (fun s_ w' => ((spec_l09Sort.d3 w' ad231 x4_1 l0)) ∧ (Kd.R k43 43 w' w.heap.size (fun k_ => some k_ ≠ (s_.2.2 : Value).ownBlock ∧ some k_ ≠ (.slice Ao46 x3_1.length co46 : Value).ownBlock) s_.2.1 y228) ∧ (Kd.R k43 43 w' w.heap.size (fun k_ => some k_ ≠ (s_.2.1 : Value).ownBlock ∧ some k_ ≠ (.slice Ao46 x3_1.length co46 : Value).ownBlock) s_.2.2 y232) ∧ (Kd.R k43 43 w' w.heap.size (fun k_ => some k_ ≠ (s_.2.1 : Value).ownBlock ∧ some k_ ≠ (s_.2.2 : Value).ownBlock) (.slice Ao46 x3_1.length co46) x3_1) ∧ (Below w.heap.size w w')) ?_ ?_
      rotate_left
      ·intro hCont
       refine two_ (i := 0) (j := 9) (Ni := some 30) (Nj := some 39) zA60 zA61 rfl rfl rfl rfl (two_of HT_.out (by kernel_rfl)) (by decide) (by decide) (fun K hK => ?_) (fun K hK => ?_)
       ·skip
        refine Kd.R_lit_step k43 _ 43 ?hg (N := 30) ?hd (xs := ([] : List (S43))) (inner := []) (ok := fun _ => True) (okp := fun _ => True) ?hr ?hp (fun _ hk => hk) trivial (Below.refl _ _) (Nat.le_refl _) (by simp) ?_; (case hd => rfl); (case hg => rfl); (case hr => first | (go_simp; done) | (go_simp; rfl)); (case hp => exact (Reps.none _ _))
        intro v222 w50 ho51 hb hg_ hnew_
        clear hg_ hnew_
        (first | rw [← Ny221.out] at ho51 | (simp only [Int.reduceToNat] at ho51; rw [← Ny221.out] at ho51))
        have n0_ := aM (Kd.R_elder' (mR_ HO_3.out) (Kd.R_base ho51) hb)
        have n1_ := aM (Kd.R_lower (Kd.R_new' ho51 (Kd.R_lt (mR_ HO_3.out))) (below_size zb))
        have n2_ := aM (Kd.C_below (mQ_ HR227.out) hb)
        have n3_ := aM (Kd.C_below (mQ_ HR241.out) hb)
        have n4_ := aM (below_step zb hb)
        clear HO_3
        clear HR227
        clear HR241
        clear HB
        have HO_3 := n0_
        have HO223 := n1_
        have HR227 := n2_
        have HR241 := n3_
        have HB := n4_
        clear n0_ n1_ n2_ n3_ n4_
        clear hb ho51
        refine hK.out _ _ ⟨(zk HB.out hw231_0), (zk HB.out hw231_1), (zk HB.out hw231_2)⟩ (fun hHeld => ?_)
        clear hK K
        refine norm_ (a' := ?_) ?_ ?_
        rotate_left
        ·show Act.put _ (some 30) _ = _
         simp only [Act.put, xA, xB, xC, i64_w, i32_w]
         rfl
        refine two_ (i := 4) (j := 9) (Ni := some 34) (Nj := some 39) zA62 zA63 rfl rfl rfl rfl (two_of HT_.out (by kernel_rfl)) (by decide) (by decide) (fun K hK => ?_) (fun K hK => ?_)
        ·skip
         refine Kd.R_append_rows_step k43 (w0 := w) w.heap.size (by rfl) (.tmp 30) (.tmp 33) 40 43 (.agg #[(.int .i64 0), (.int .i64 0), (.int .i64 0)]) 24 rfl Try.underlying40 info43 rfl (by decide) (by omega) v222 y221 y224 _ _ _ (fun k_ => some k_ ≠ (.slice Ao46 x3_1.length co46 : Value).ownBlock) (fun _ => False) rfl rfl ?aO ?aR (fun _ _ h => h) (fun _ h => h.elim) ?aF ?aB ?aS ?aL ?_
         (case aR => repeat (first | exact (mQ_ HR227.out) | (with_reducible refine Kd.C_alloc ?_ _) | (with_reducible refine Kd.C_drewN ?_ _) | (with_reducible refine Kd.C_drew ?_)))
         (case aB => exact zb)
         (case aF => exact (fun k_ hk => Kd.fresh' (Kd.R_lt (mR_ HO_3.out)) k_ hk))
         (case aO => exact (zd5 HO223.out))
         (case aS => exact (below_size zb))
         (case aL => have := LMc38.out; omega)
         intro v229 w52 ho hb hg hat
         rw [← Ny228.out] at ho
         have n0_ := aM (Kd.R_after (ok := (fun _ => True)) (mR_ HO_3.out) hg hat)
         have n1_ := aM (hb)
         have n2_ := aM ((show Kd.C k43 w52 Ao46 y224.length y224 from by rw [Ny224.out]; exact Kd.C_take (m := (x5_2 : Int).toNat) ((Kd.R_reads' (Kd.R_after (ok := (fun _ => True)) (mR_ HO_3.out) hg hat)).2.2) KL48.out))
         have n3_ := aM ((show Kd.C k43 w52 A49 y238.length y238 from by rw [Ny238.out, KA49.out]; exact Kd.C_drop (m := (x5_2 : Int).toNat) (c := co46) ((Kd.R_reads' (Kd.R_after (ok := (fun _ => True)) (mR_ HO_3.out) hg hat)).2.2) KL49.out ((Kd.R_reads' (Kd.R_after (ok := (fun _ => True)) (mR_ HO_3.out) hg hat)).2.1)))
         have n4_ := aM (ho)
         clear HO_3
         clear HB
         clear HR227
         clear HR241
         clear HO223
         have HO_3 := n0_
         have HB := n1_
         have HR227 := n2_
         have HR241 := n3_
         have HO230 := n4_
         clear n0_ n1_ n2_ n3_ n4_
         clear ho hb hg hat
         refine hK.out _ _ ⟨(zk HB.out hw231_0), (zk HB.out hw231_1), (zk HB.out hw231_2)⟩ (fun hHeld => ?_)
         clear hK K
         refine norm_ (a' := ?_) ?_ ?_
         rotate_left
         ·show Act.put _ (some 34) _ = _
          simp only [Act.put, xA, xB, xC, i64_w, i32_w]
          rfl
         refine one_ (i := 9) (N := some 39) zA59 rfl rfl (one_of HT_.out (by kernel_rfl)) (by decide) (fun K hK => ?_)
         refine Kd.R_lit_step k43 _ 43 ?hg (N := 39) ?hd (xs := ([(⟨(rd_T43 l0 x4_1).f0, (rd_T43 l0 x4_1).f1, (rd_T43 l0 x4_1).f2⟩ : S43)] : List (S43))) (inner := [.int .i64 ((rd_T43 l0 x4_1).f0), .int .i64 ((rd_T43 l0 x4_1).f1), .int .i64 ((rd_T43 l0 x4_1).f2)]) (ok := fun _ => True) (okp := fun _ => True) ?hr ?hp (fun _ hk => hk) trivial (Below.refl _ _) (Nat.le_refl _) (by simp) ?_; (case hd => rfl); (case hg => rfl); (case hr => first | (go_simp; done) | (go_simp; rfl)); (case hp => exact (Reps.c3 (show Kd.M k43 _ _ _ (⟨(rd_T43 l0 x4_1).f0, (rd_T43 l0 x4_1).f1, (rd_T43 l0 x4_1).f2⟩ : S43) [.int .i64 ((rd_T43 l0 x4_1).f0), .int .i64 ((rd_T43 l0 x4_1).f1), .int .i64 ((rd_T43 l0 x4_1).f2)] from (k43_mkM _ _ _ (⟨(rd_T43 l0 x4_1).f0, (rd_T43 l0 x4_1).f1, (rd_T43 l0 x4_1).f2⟩ : S43) )) (Reps.none _ _)))
         intro v233 w53 ho54 hb hg_ hnew_
         clear hg_ hnew_
         (first | rw [← Ny232.out] at ho54 | (simp only [Int.reduceToNat] at ho54; rw [← Ny232.out] at ho54))
         have n0_ := aM (Kd.R_elder' (mR_ HO_3.out) (Kd.R_base ho54) hb)
         have n1_ := aM (Kd.R_elder' (mR_ HO230.out) (Kd.R_base ho54) hb)
         have n2_ := aM (Kd.R_lower (Kd.R_new' (Kd.R_new' ho54 (Kd.R_lt (mR_ HO_3.out))) (Kd.R_lt (mR_ HO230.out))) (below_size zb))
         have n3_ := aM (Kd.C_below (mQ_ HR227.out) hb)
         have n4_ := aM (Kd.C_below (mQ_ HR241.out) hb)
         have n5_ := aM (below_step zb hb)
         clear HO_3
         clear HO230
         clear HR227
         clear HR241
         clear HB
         have HO_3 := n0_
         have HO230 := n1_
         have HO234 := n2_
         have HR227 := n3_
         have HR241 := n4_
         have HB := n5_
         clear n0_ n1_ n2_ n3_ n4_ n5_
         clear hb ho54
         refine hK.out _ _ ⟨(zk HB.out hw231_0), (zk HB.out hw231_1), (zk HB.out hw231_2)⟩ (fun hHeld => ?_)
         clear hK K
         refine norm_ (a' := ?_) ?_ ?_
         rotate_left
         ·show Act.put _ (some 39) _ = _
          simp only [Act.put, xA, xB, xC, i64_w, i32_w]
          rfl
         exact norm_ (by simp only [putAll, Act.put, xA, xB, xC]) (hCont (v222, v229, v233) _ ⟨hHeld, (zd7 HO230.out), (zd8 HO234.out), (zd9 HO_3.out), zb⟩)
        ·skip
         refine Kd.R_lit_step k43 _ 43 ?hg (N := 39) ?hd (xs := ([(⟨(rd_T43 l0 x4_1).f0, (rd_T43 l0 x4_1).f1, (rd_T43 l0 x4_1).f2⟩ : S43)] : List (S43))) (inner := [.int .i64 ((rd_T43 l0 x4_1).f0), .int .i64 ((rd_T43 l0 x4_1).f1), .int .i64 ((rd_T43 l0 x4_1).f2)]) (ok := fun _ => True) (okp := fun _ => True) ?hr ?hp (fun _ hk => hk) trivial (Below.refl _ _) (Nat.le_refl _) (by simp) ?_; (case hd => rfl); (case hg => rfl); (case hr => first | (go_simp; done) | (go_simp; rfl)); (case hp => exact (Reps.c3 (show Kd.M k43 _ _ _ (⟨(rd_T43 l0 x4_1).f0, (rd_T43 l0 x4_1).f1, (rd_T43 l0 x4_1).f2⟩ : S43) [.int .i64 ((rd_T43 l0 x4_1).f0), .int .i64 ((rd_T43 l0 x4_1).f1), .int .i64 ((rd_T43 l0 x4_1).f2)] from (k43_mkM _ _ _ (⟨(rd_T43 l0 x4_1).f0, (rd_T43 l0 x4_1).f1, (rd_T43 l0 x4_1).f2⟩ : S43) )) (Reps.none _ _)))
         intro v233 w52 ho53 hb hg_ hnew_
         clear hg_ hnew_
         (first | rw [← Ny232.out] at ho53 | (simp only [Int.reduceToNat] at ho53; rw [← Ny232.out] at ho53))
         have n0_ := aM (Kd.R_elder' (mR_ HO_3.out) (Kd.R_base ho53) hb)
         have n1_ := aM (Kd.R_elder' (mR_ HO223.out) (Kd.R_base ho53) hb)
         have n2_ := aM (Kd.R_lower (Kd.R_new' (Kd.R_new' ho53 (Kd.R_lt (mR_ HO_3.out))) (Kd.R_lt (mR_ HO223.out))) (below_size zb))
         have n3_ := aM (Kd.C_below (mQ_ HR227.out) hb)
         have n4_ := aM (Kd.C_below (mQ_ HR241.out) hb)
         have n5_ := aM (below_step zb hb)
         clear HO_3
         clear HO223
         clear HR227
         clear HR241
         clear HB
         have HO_3 := n0_
         have HO223 := n1_
         have HO234 := n2_
         have HR227 := n3_
         have HR241 := n4_
         have HB := n5_
         clear n0_ n1_ n2_ n3_ n4_ n5_
         clear hb ho53
         refine hK.out _ _ ⟨(zk HB.out hw231_0), (zk HB.out hw231_1), (zk HB.out hw231_2)⟩ (fun hHeld => ?_)
         clear hK K
         refine norm_ (a' := ?_) ?_ ?_
         rotate_left
         ·show Act.put _ (some 39) _ = _
          simp only [Act.put, xA, xB, xC, i64_w, i32_w]
          rfl
         refine one_ (i := 4) (N := some 34) zA59 rfl rfl (one_of HT_.out (by kernel_rfl)) (by decide) (fun K hK => ?_)
         refine Kd.R_append_rows_step k43 (w0 := w) w.heap.size (by rfl) (.tmp 30) (.tmp 33) 40 43 (.agg #[(.int .i64 0), (.int .i64 0), (.int .i64 0)]) 24 rfl Try.underlying40 info43 rfl (by decide) (by omega) v222 y221 y224 _ _ _ (fun k_ => some k_ ≠ (.slice Ao46 x3_1.length co46 : Value).ownBlock ∧ some k_ ≠ (v233 : Value).ownBlock) (fun _ => False) rfl rfl ?aO ?aR (fun _ _ h => h) (fun _ h => h.elim) ?aF ?aB ?aS ?aL ?_
         (case aR => repeat (first | exact (mQ_ HR227.out) | (with_reducible refine Kd.C_alloc ?_ _) | (with_reducible refine Kd.C_drewN ?_ _) | (with_reducible refine Kd.C_drew ?_)))
         (case aB => exact zb)
         (case aF => exact (fun k_ hk => ⟨Kd.fresh' (Kd.R_lt (mR_ HO_3.out)) k_ hk, Kd.fresh' (Kd.R_lt (mR_ HO234.out)) k_ hk⟩))
         (case aO => exact (zd9 HO223.out))
         (case aS => exact (below_size zb))
         (case aL => have := LMc38.out; omega)
         intro v229 w54 ho hb hg hat
         rw [← Ny228.out] at ho
         have n0_ := aM (Kd.R_after (ok := (fun k_ => some k_ ≠ (v233 : Value).ownBlock)) (zd8 HO_3.out) hg hat)
         have n1_ := aM (Kd.R_after (ok := (fun k_ => some k_ ≠ (.slice Ao46 x3_1.length co46 : Value).ownBlock)) (zd9 HO234.out) hg hat)
         have n2_ := aM (hb)
         have n3_ := aM ((show Kd.C k43 w54 Ao46 y224.length y224 from by rw [Ny224.out]; exact Kd.C_take (m := (x5_2 : Int).toNat) ((Kd.R_reads' (Kd.R_after (ok := (fun k_ => some k_ ≠ (v233 : Value).ownBlock)) (zd8 HO_3.out) hg hat)).2.2) KL48.out))
         have n4_ := aM ((show Kd.C k43 w54 A49 y238.length y238 from by rw [Ny238.out, KA49.out]; exact Kd.C_drop (m := (x5_2 : Int).toNat) (c := co46) ((Kd.R_reads' (Kd.R_after (ok := (fun k_ => some k_ ≠ (v233 : Value).ownBlock)) (zd8 HO_3.out) hg hat)).2.2) KL49.out ((Kd.R_reads' (Kd.R_after (ok := (fun k_ => some k_ ≠ (v233 : Value).ownBlock)) (zd8 HO_3.out) hg hat)).2.1)))
         have n5_ := aM (ho)
         clear HO_3
         clear HO234
         clear HB
         clear HR227
         clear HR241
         clear HO223
         have HO_3 := n0_
         have HO234 := n1_
         have HB := n2_
         have HR227 := n3_
         have HR241 := n4_
         have HO230 := n5_
         clear n0_ n1_ n2_ n3_ n4_ n5_
         clear ho hb hg hat
         refine hK.out _ _ ⟨(zk HB.out hw231_0), (zk HB.out hw231_1), (zk HB.out hw231_2)⟩ (fun hHeld => ?_)
         clear hK K
         refine norm_ (a' := ?_) ?_ ?_
         rotate_left
         ·show Act.put _ (some 34) _ = _
          simp only [Act.put, xA, xB, xC, i64_w, i32_w]
          rfl
         exact norm_ (by simp only [putAll, Act.put, xA, xB, xC]) (hCont (v222, v229, v233) _ ⟨hHeld, (zd7 HO230.out), (zd7 HO234.out), (zd7 HO_3.out), zb⟩)
       ·skip
        refine Kd.R_lit_step k43 _ 43 ?hg (N := 39) ?hd (xs := ([(⟨(rd_T43 l0 x4_1).f0, (rd_T43 l0 x4_1).f1, (rd_T43 l0 x4_1).f2⟩ : S43)] : List (S43))) (inner := [.int .i64 ((rd_T43 l0 x4_1).f0), .int .i64 ((rd_T43 l0 x4_1).f1), .int .i64 ((rd_T43 l0 x4_1).f2)]) (ok := fun _ => True) (okp := fun _ => True) ?hr ?hp (fun _ hk => hk) trivial (Below.refl _ _) (Nat.le_refl _) (by simp) ?_; (case hd => rfl); (case hg => rfl); (case hr => first | (go_simp; done) | (go_simp; rfl)); (case hp => exact (Reps.c3 (show Kd.M k43 _ _ _ (⟨(rd_T43 l0 x4_1).f0, (rd_T43 l0 x4_1).f1, (rd_T43 l0 x4_1).f2⟩ : S43) [.int .i64 ((rd_T43 l0 x4_1).f0), .int .i64 ((rd_T43 l0 x4_1).f1), .int .i64 ((rd_T43 l0 x4_1).f2)] from (k43_mkM _ _ _ (⟨(rd_T43 l0 x4_1).f0, (rd_T43 l0 x4_1).f1, (rd_T43 l0 x4_1).f2⟩ : S43) )) (Reps.none _ _)))
        intro v233 w50 ho51 hb hg_ hnew_
        clear hg_ hnew_
        (first | rw [← Ny232.out] at ho51 | (simp only [Int.reduceToNat] at ho51; rw [← Ny232.out] at ho51))
        have n0_ := aM (Kd.R_elder' (mR_ HO_3.out) (Kd.R_base ho51) hb)
        have n1_ := aM (Kd.R_lower (Kd.R_new' ho51 (Kd.R_lt (mR_ HO_3.out))) (below_size zb))
        have n2_ := aM (Kd.C_below (mQ_ HR227.out) hb)
        have n3_ := aM (Kd.C_below (mQ_ HR241.out) hb)
        have n4_ := aM (below_step zb hb)
        clear HO_3
        clear HR227
        clear HR241
        clear HB
        have HO_3 := n0_
        have HO234 := n1_
        have HR227 := n2_
        have HR241 := n3_
        have HB := n4_
        clear n0_ n1_ n2_ n3_ n4_
        clear hb ho51
        refine hK.out _ _ ⟨(zk HB.out hw231_0), (zk HB.out hw231_1), (zk HB.out hw231_2)⟩ (fun hHeld => ?_)
        clear hK K
        refine norm_ (a' := ?_) ?_ ?_
        rotate_left
        ·show Act.put _ (some 39) _ = _
         simp only [Act.put, xA, xB, xC, i64_w, i32_w]
         rfl
        refine one_ (i := 0) (N := some 30) zA63 rfl rfl (one_of HT_.out (by kernel_rfl)) (by decide) (fun K hK => ?_)
        refine Kd.R_lit_step k43 _ 43 ?hg (N := 30) ?hd (xs := ([] : List (S43))) (inner := []) (ok := fun _ => True) (okp := fun _ => True) ?hr ?hp (fun _ hk => hk) trivial (Below.refl _ _) (Nat.le_refl _) (by simp) ?_; (case hd => rfl); (case hg => rfl); (case hr => first | (go_simp; done) | (go_simp; rfl)); (case hp => exact (Reps.none _ _))
        intro v222 w52 ho53 hb hg_ hnew_
        clear hg_ hnew_
        (first | rw [← Ny221.out] at ho53 | (simp only [Int.reduceToNat] at ho53; rw [← Ny221.out] at ho53))
        have n0_ := aM (Kd.R_elder' (mR_ HO_3.out) (Kd.R_base ho53) hb)
        have n1_ := aM (Kd.R_elder' (mR_ HO234.out) (Kd.R_base ho53) hb)
        have n2_ := aM (Kd.R_lower (Kd.R_new' (Kd.R_new' ho53 (Kd.R_lt (mR_ HO_3.out))) (Kd.R_lt (mR_ HO234.out))) (below_size zb))
        have n3_ := aM (Kd.C_below (mQ_ HR227.out) hb)
        have n4_ := aM (Kd.C_below (mQ_ HR241.out) hb)
        have n5_ := aM (below_step zb hb)
        clear HO_3
        clear HO234
        clear HR227
        clear HR241
        clear HB
        have HO_3 := n0_
        have HO234 := n1_
        have HO223 := n2_
        have HR227 := n3_
        have HR241 := n4_
        have HB := n5_
        clear n0_ n1_ n2_ n3_ n4_ n5_
        clear hb ho53
        refine hK.out _ _ ⟨(zk HB.out hw231_0), (zk HB.out hw231_1), (zk HB.out hw231_2)⟩ (fun hHeld => ?_)
        clear hK K
        refine norm_ (a' := ?_) ?_ ?_
        rotate_left
        ·show Act.put _ (some 30) _ = _
         simp only [Act.put, xA, xB, xC, i64_w, i32_w]
         rfl
        refine one_ (i := 4) (N := some 34) zA59 rfl rfl (one_of HT_.out (by kernel_rfl)) (by decide) (fun K hK => ?_)
        refine Kd.R_append_rows_step k43 (w0 := w) w.heap.size (by rfl) (.tmp 30) (.tmp 33) 40 43 (.agg #[(.int .i64 0), (.int .i64 0), (.int .i64 0)]) 24 rfl Try.underlying40 info43 rfl (by decide) (by omega) v222 y221 y224 _ _ _ (fun k_ => some k_ ≠ (.slice Ao46 x3_1.length co46 : Value).ownBlock ∧ some k_ ≠ (v233 : Value).ownBlock) (fun _ => False) rfl rfl ?aO ?aR (fun _ _ h => h) (fun _ h => h.elim) ?aF ?aB ?aS ?aL ?_
        (case aR => repeat (first | exact (mQ_ HR227.out) | (with_reducible refine Kd.C_alloc ?_ _) | (with_reducible refine Kd.C_drewN ?_ _) | (with_reducible refine Kd.C_drew ?_)))
        (case aB => exact zb)
        (case aF => exact (fun k_ hk => ⟨Kd.fresh' (Kd.R_lt (mR_ HO_3.out)) k_ hk, Kd.fresh' (Kd.R_lt (mR_ HO234.out)) k_ hk⟩))
        (case aO => exact (zd9 HO223.out))
        (case aS => exact (below_size zb))
        (case aL => have := LMc38.out; omega)
        intro v229 w54 ho hb hg hat
        rw [← Ny228.out] at ho
        have n0_ := aM (Kd.R_after (ok := (fun k_ => some k_ ≠ (v233 : Value).ownBlock)) (zd9 HO_3.out) hg hat)
        have n1_ := aM (Kd.R_after (ok := (fun k_ => some k_ ≠ (.slice Ao46 x3_1.length co46 : Value).ownBlock)) (zd9 HO234.out) hg hat)
        have n2_ := aM (hb)
        have n3_ := aM ((show Kd.C k43 w54 Ao46 y224.length y224 from by rw [Ny224.out]; exact Kd.C_take (m := (x5_2 : Int).toNat) ((Kd.R_reads' (Kd.R_after (ok := (fun k_ => some k_ ≠ (v233 : Value).ownBlock)) (zd9 HO_3.out) hg hat)).2.2) KL48.out))
        have n4_ := aM ((show Kd.C k43 w54 A49 y238.length y238 from by rw [Ny238.out, KA49.out]; exact Kd.C_drop (m := (x5_2 : Int).toNat) (c := co46) ((Kd.R_reads' (Kd.R_after (ok := (fun k_ => some k_ ≠ (v233 : Value).ownBlock)) (zd9 HO_3.out) hg hat)).2.2) KL49.out ((Kd.R_reads' (Kd.R_after (ok := (fun k_ => some k_ ≠ (v233 : Value).ownBlock)) (zd9 HO_3.out) hg hat)).2.1)))
        have n5_ := aM (ho)
        clear HO_3
        clear HO234
        clear HB
        clear HR227
        clear HR241
        clear HO223
        have HO_3 := n0_
        have HO234 := n1_
        have HB := n2_
        have HR227 := n3_
        have HR241 := n4_
        have HO230 := n5_
        clear n0_ n1_ n2_ n3_ n4_ n5_
        clear ho hb hg hat
        refine hK.out _ _ ⟨(zk HB.out hw231_0), (zk HB.out hw231_1), (zk HB.out hw231_2)⟩ (fun hHeld => ?_)
        clear hK K
        refine norm_ (a' := ?_) ?_ ?_
        rotate_left
        ·show Act.put _ (some 34) _ = _
         simp only [Act.put, xA, xB, xC, i64_w, i32_w]
         rfl
        exact norm_ (by simp only [putAll, Act.put, xA, xB, xC]) (hCont (v222, v229, v233) _ ⟨hHeld, (zd7 HO230.out), (zd7 HO234.out), (zd7 HO_3.out), zb⟩)
      rintro ⟨v222, v229, v233⟩ w55 ⟨hS_, h0_, h1_, h2_, h3_⟩
      have n0_ : Aside0 (Kd.R k43 43 w55 w.heap.size (fun k_ => some k_ ≠ (v233 : Value).ownBlock ∧ some k_ ≠ (.slice Ao46 x3_1.length co46 : Value).ownBlock) v229 y228) := ⟨h0_⟩
      have n1_ : Aside0 (Kd.R k43 43 w55 w.heap.size (fun k_ => some k_ ≠ (v229 : Value).ownBlock ∧ some k_ ≠ (.slice Ao46 x3_1.length co46 : Value).ownBlock) v233 y232) := ⟨h1_⟩
      have n2_ : Aside0 (Kd.R k43 43 w55 w.heap.size (fun k_ => some k_ ≠ (v229 : Value).ownBlock ∧ some k_ ≠ (v233 : Value).ownBlock) (.slice Ao46 x3_1.length co46) x3_1) := ⟨h2_⟩
      have n3_ : Aside0 (Below w.heap.size w w55) := ⟨h3_⟩
      clear HO_3
      clear HB
      clear h0_ h1_ h2_ h3_
      have HO230 := n0_
      have HO234 := n1_
      have HO_3 := n2_
      have HB := n3_
      clear n0_ n1_ n2_ n3_
      have hHeld : (spec_l09Sort.d3 w55 ad231 x4_1 l0) := hS_
      (try clear HR227)
      have HR227 := aM (show Kd.C k43 _ Ao46 y224.length y224 from by rw [Ny224.out]; exact Kd.C_take (m := (x5_2 : Int).toNat) ((Kd.R_reads' HO_3.out).2.2) KL48.out)
      (try clear HR241)
      have HR241 := aM (show Kd.C k43 _ A49 y238.length y238 from by rw [Ny238.out, KA49.out]; exact Kd.C_drop (m := (x5_2 : Int).toNat) (c := co46) ((Kd.R_reads' HO_3.out).2.2) KL49.out ((Kd.R_reads' HO_3.out).2.1))
      obtain ⟨Ao57, co57, eo57⟩ := Kd.R_slice HO234.out
      (first | subst eo57 | (injection eo57 with f1_ f2_ f3_; have f4_ := f1_.symm; have f5_ := f3_.symm; clear f1_ f2_ f3_; subst f4_; subst f5_))
      refine norm_ (a' := ?_) ?_ ?_
      rotate_left
      ·simp only [putAll, Act.put, xA, xB, xC]
       rfl
      refine one_ (i := 10) (N := some 40) zA64 rfl rfl (one_of HT_.out (by kernel_rfl)) (by decide) (fun K hK => ?_)
      refine Kd.R_append_rows_step k43 (w0 := w) w.heap.size (by rfl) (.tmp 34) (.tmp 39) 40 43 (.agg #[(.int .i64 0), (.int .i64 0), (.int .i64 0)]) 24 rfl Try.underlying40 info43 rfl (by decide) (by omega) v229 y228 y232 _ _ _ (fun k_ => some k_ ≠ (.slice Ao46 x3_1.length co46 : Value).ownBlock ∧ some k_ ≠ (.slice Ao57 y232.length co57 : Value).ownBlock) (fun _ => False) rfl rfl ?aO ?aR (fun _ _ h => h) (fun _ h => h.elim) ?aF ?aB ?aS ?aL ?_
      (case aR => exact zc HO234.out)
      (case aB => exact zb)
      (case aF => exact (fun k_ hk => ⟨Kd.fresh' (Kd.R_lt (mR_ HO_3.out)) k_ hk, Kd.fresh' (Kd.R_lt (mR_ HO234.out)) k_ hk⟩))
      (case aO => exact (zd7 HO230.out))
      (case aS => exact (below_size zb))
      (case aL => have := LMc41.out; omega)
      intro v236 w56 ho hb hg hat
      rw [← Ny235.out] at ho
      have n0_ := aM (Kd.R_after (ok := (fun k_ => some k_ ≠ (.slice Ao57 y232.length co57 : Value).ownBlock)) (zd7 HO_3.out) hg hat)
      have n1_ := aM (Kd.R_after (ok := (fun k_ => some k_ ≠ (.slice Ao46 x3_1.length co46 : Value).ownBlock)) (zd7 HO234.out) hg hat)
      have n2_ := aM (hb)
      have n3_ := aM ((show Kd.C k43 w56 Ao46 y224.length y224 from by rw [Ny224.out]; exact Kd.C_take (m := (x5_2 : Int).toNat) ((Kd.R_reads' (Kd.R_after (ok := (fun k_ => some k_ ≠ (.slice Ao57 y232.length co57 : Value).ownBlock)) (zd7 HO_3.out) hg hat)).2.2) KL48.out))
      have n4_ := aM ((show Kd.C k43 w56 A49 y238.length y238 from by rw [Ny238.out, KA49.out]; exact Kd.C_drop (m := (x5_2 : Int).toNat) (c := co46) ((Kd.R_reads' (Kd.R_after (ok := (fun k_ => some k_ ≠ (.slice Ao57 y232.length co57 : Value).ownBlock)) (zd7 HO_3.out) hg hat)).2.2) KL49.out ((Kd.R_reads' (Kd.R_after (ok := (fun k_ => some k_ ≠ (.slice Ao57 y232.length co57 : Value).ownBlock)) (zd7 HO_3.out) hg hat)).2.1)))
      have n5_ := aM (ho)
      clear HO_3
      clear HO234
      clear HB
      clear HR227
      clear HR241
      clear HO230
      have HO_3 := n0_
      have HO234 := n1_
      have HB := n2_
      have HR227 := n3_
      have HR241 := n4_
      have HO237 := n5_
      clear n0_ n1_ n2_ n3_ n4_ n5_
      clear ho hb hg hat
      refine hK.out _ _ ⟨(zk HB.out hw231_0), (zk HB.out hw231_1), (zk HB.out hw231_2)⟩ (fun hHeld => ?_)
      clear hK K
      refine norm_ (a' := ?_) ?_ ?_
      rotate_left
      ·show Act.put _ (some 40) _ = _
       simp only [Act.put, xA, xB, xC, i64_w, i32_w]
       rfl
      refine one_ (i := 14) (N := some 44) zA65 rfl rfl (one_of HT_.out (by kernel_rfl)) (by decide) (fun K hK => ?_)
      refine Kd.R_append_rows_step k43 (w0 := w) w.heap.size (by rfl) (.tmp 40) (.tmp 43) 40 43 (.agg #[(.int .i64 0), (.int .i64 0), (.int .i64 0)]) 24 rfl Try.underlying40 info43 rfl (by decide) (by omega) v236 y235 y238 _ _ _ (fun k_ => some k_ ≠ (.slice Ao46 x3_1.length co46 : Value).ownBlock ∧ some k_ ≠ (.slice Ao57 y232.length co57 : Value).ownBlock) (fun _ => False) rfl rfl ?aO ?aR (fun _ _ h => h) (fun _ h => h.elim) ?aF ?aB ?aS ?aL ?_
      (case aR => repeat (first | exact (mQ_ HR241.out) | (with_reducible refine Kd.C_alloc ?_ _) | (with_reducible refine Kd.C_drewN ?_ _) | (with_reducible refine Kd.C_drew ?_)))
      (case aB => exact zb)
      (case aF => exact (fun k_ hk => ⟨Kd.fresh' (Kd.R_lt (mR_ HO_3.out)) k_ hk, Kd.fresh' (Kd.R_lt (mR_ HO234.out)) k_ hk⟩))
      (case aO => exact (mR_ HO237.out))
      (case aS => exact (below_size zb))
      (case aL => have := LMc44.out; omega)
      intro v243 w58 ho hb hg hat
      rw [← Ny242.out] at ho
      have n0_ := aM (Kd.R_after (ok := (fun k_ => some k_ ≠ (.slice Ao57 y232.length co57 : Value).ownBlock)) (mR_ HO_3.out) hg hat)
      have n1_ := aM (Kd.R_after (ok := (fun k_ => some k_ ≠ (.slice Ao46 x3_1.length co46 : Value).ownBlock)) (mR_ HO234.out) hg hat)
      have n2_ := aM (hb)
      have n3_ := aM ((show Kd.C k43 w58 Ao46 y224.length y224 from by rw [Ny224.out]; exact Kd.C_take (m := (x5_2 : Int).toNat) ((Kd.R_reads' (Kd.R_after (ok := (fun k_ => some k_ ≠ (.slice Ao57 y232.length co57 : Value).ownBlock)) (mR_ HO_3.out) hg hat)).2.2) KL48.out))
      have n4_ := aM ((show Kd.C k43 w58 A49 y238.length y238 from by rw [Ny238.out, KA49.out]; exact Kd.C_drop (m := (x5_2 : Int).toNat) (c := co46) ((Kd.R_reads' (Kd.R_after (ok := (fun k_ => some k_ ≠ (.slice Ao57 y232.length co57 : Value).ownBlock)) (mR_ HO_3.out) hg hat)).2.2) KL49.out ((Kd.R_reads' (Kd.R_after (ok := (fun k_ => some k_ ≠ (.slice Ao57 y232.length co57 : Value).ownBlock)) (mR_ HO_3.out) hg hat)).2.1)))
      have n5_ := aM (ho)
      clear HO_3
      clear HO234
      clear HB
      clear HR227
      clear HR241
      clear HO237
      have HO_3 := n0_
      have HO234 := n1_
      have HB := n2_
      have HR227 := n3_
      have HR241 := n4_
      have HO244 := n5_
      clear n0_ n1_ n2_ n3_ n4_ n5_
      clear ho hb hg hat
      refine hK.out _ _ ⟨(zk HB.out hw231_0), (zk HB.out hw231_1), (zk HB.out hw231_2)⟩ (fun hHeld => ?_)
      clear hK K
      refine norm_ (a' := ?_) ?_ ?_
      rotate_left
      ·show Act.put _ (some 44) _ = _
       simp only [Act.put, xA, xB, xC, i64_w, i32_w]
       rfl
      refine zp 15 (some 3) ?_ zA66 rfl rfl (Or.inl ⟨by rfl, ?_⟩) ?_ ?_ ?_
      rotate_left
      ·intro w'
       go_simp
       with_reducible rfl
      rotate_left
      ·simp only [Act.put, xA, xB, xC, i64_w, i32_w]
       rfl
      refine done_ (done_of HT_.out (by kernel_rfl)) ?_
      try go_wp2
      go_roundg k2
      case measure => have := HK1.out; have := HK2.out; omega
      case rel => exact ⟨(y242), (wrap64 (x4_1 + 1)), zr, H', ⟨by have := HK1.out; have := HK2.out; omega⟩, ⟨zd6 HO244.out⟩, ⟨zb⟩⟩
     rw [if_pos c5] at H
     have c5b0 : decide (x5_2 < (x3_1.length : Int)) = true := decide_eq_true c5
     clear c5
     by_cases c6 : 0 ≤ x5_2
     rotate_left
     ·rw [if_neg c6] at H
      exact absurd H (by simp)
     rw [if_pos c6] at H
     have c6b0 : decide (0 ≤ x5_2) = true := decide_eq_true c6
     clear c6
     by_cases c7 : 0 ≤ x4_1
     rotate_left
     ·rw [if_neg c7] at H
      exact absurd H (by simp)
     rw [if_pos c7] at H
     have c7b0 : decide (0 ≤ x4_1) = true := decide_eq_true c7
     clear c7
     by_cases c8 : x4_1 < (l0.length : Int)
     rotate_left
     ·rw [if_neg c8] at H
      exact absurd H (by simp)
     rw [if_pos c8] at H
     have c8b0 : decide (x4_1 < (l0.length : Int)) = true := decide_eq_true c8
     clear c8
     replace H := Option.bind_eq_some_iff.mp H
     obtain ⟨t196, A90, H⟩ := H
     replace H : (if t196 = true then (spec_l09Sort.l1 k2 l0 x3_1 x4_1 (wrap64 (x5_2 + 1))) else ((some (([] : List (S43)) : List (S43))).bind fun y197 => (if x5_2 ≤ (x3_1.length : Int) then ((some (x3_1.take (x5_2 : Int).toNat : List (S43))).bind fun y200 => (if y197.length + y200.length < 5864062014805 then ((some (y197 ++ y200 : List (S43))).bind fun y204 => ((some (([(⟨(rd_T43 l0 x4_1).f0, (rd_T43 l0 x4_1).f1, (rd_T43 l0 x4_1).f2⟩ : S43)] : List (S43)) : List (S43))).bind fun y208 => (if y204.length + y208.length < 5864062014805 then ((some (y204 ++ y208 : List (S43))).bind fun y211 => ((some (x3_1.drop (x5_2 : Int).toNat : List (S43))).bind fun y214 => (if y211.length + y214.length < 5864062014805 then (spec_l09Sort.l0 k2 l0 (y211 ++ y214) (wrap64 (x4_1 + 1))) else (none)))) else (none)))) else (none))) else (none)))) = some r := H
     have A9 := aM A90
     clear A90
     by_cases c10 : t196 = true
     ·subst c10
      have H1 : (spec_l09Sort.l1 k2 l0 x3_1 x4_1 (wrap64 (x5_2 + 1))) = some r := by rw [if_pos rfl] at H; exact H
      clear H
      have H := H1
      clear H1
      have H' := aM H
      clear H
      try go_wp2
      have n0_ := aM (Kd.R_drew HO_3.out)
      have n1_ := aM (below_drew1 HB.out)
      clear HO_3
      clear HB
      have HO_3 := n0_
      have HB := n1_
      clear n0_ n1_
      obtain ⟨Ao12, co12, eo12⟩ := Kd.R_slice HO_3.out
      (first | subst eo12 | (injection eo12 with f1_ f2_ f3_; have f4_ := f1_.symm; have f5_ := f3_.symm; clear f1_ f2_ f3_; subst f4_; subst f5_))
      have p194 : 0 ≤ (x5_2 : Int) := of_decide_eq_true za
      have q194 : x5_2 < (x3_1.length : Int) := of_decide_eq_true za
      obtain ⟨ad194, e194, hx194_0, hx194_1, hx194_2⟩ := at_T43 (Kd.R_reads' HO_3.out).2.2 x5_2 p194 q194
      cases e194
      replace p194 := eq_true p194
      replace q194 := eq_true q194
      have p195 : 0 ≤ (x4_1 : Int) := of_decide_eq_true za
      have q195 : x4_1 < (l0.length : Int) := of_decide_eq_true za
      obtain ⟨ad195, e195, hx195_0, hx195_1, hx195_2⟩ := at_T43 HR0.out x4_1 p195 q195
      have hw195_2 := hx195_2
      have hw195_1 := hx195_1
      have hw195_0 := hx195_0
      cases e195
      replace hx195_0 := zk HB.out hx195_0
      replace hx195_1 := zk HB.out hx195_1
      replace hx195_2 := zk HB.out hx195_2
      replace p195 := eq_true p195
      replace q195 := eq_true q195
      refine start_ (n := 15) (S := fun w' => (spec_l09Sort.c3 w' ad194 x5_2 x3_1 ((spec_l09Sort.d3 w' ad195 x4_1 l0)))) (ds := []) zA32 (by kernel_rfl) rfl rfl ⟨hx194_0, hx194_1, hx194_2, (zk HB.out hw195_0), (zk HB.out hw195_1), (zk HB.out hw195_2)⟩ (fun hHeld => ?_); refine with_tabW spec_l09Sort.tab6 spec_l09Sort.bits6 (fun HT_ HW_ => ?_)
      generalize wr.drew = w11 at HO_3 HB hx194_0 hx194_1 hx194_2 hx195_0 hx195_1 hx195_2 hHeld ⊢
      refine zp 0 (some 13) ?_ zA33 rfl rfl (Or.inl ⟨by rfl, ?_⟩) ?_ ?_ ?_
      rotate_left
      ·intro w'
       go_simp
       with_reducible rfl
      rotate_left
      ·simp only [Act.put, xA, xB, xC, i64_w, i32_w]
       rfl
      refine zp 1 (some 14) ?_ zA34 rfl rfl (Or.inl ⟨by rfl, ?_⟩) ?_ ?_ ?_
      rotate_left
      ·intro w'
       go_simp
       with_reducible rfl
      rotate_left
      ·simp only [Act.put, xA, xB, xC, i64_w, i32_w]
       rfl
      refine zp 2 (some 15) ?_ zA35 rfl rfl (Or.inl ⟨by rfl, ?_⟩) ?_ ?_ ?_
      rotate_left
      ·intro w'
       go_simp
       with_reducible rfl
      rotate_left
      ·simp only [Act.put, xA, xB, xC, i64_w, i32_w]
       rfl
      refine zp 3 (some 16) ?_ zA36 rfl rfl (Or.inl ⟨by rfl, ?_⟩) ?_ ?_ ?_
      rotate_left
      ·intro w'
       go_simp
       with_reducible rfl
      rotate_left
      ·simp only [Act.put, xA, xB, xC, i64_w, i32_w]
       rfl
      refine zp 4 (some 17) ?_ zA37 rfl rfl (Or.inl ⟨by rfl, ?_⟩) ?_ ?_ ?_
      rotate_left
      ·intro w'
       go_simp
       with_reducible rfl
      rotate_left
      ·simp only [Act.put, xA, xB, xC, i64_w, i32_w]
       rfl
      refine zp 5 (some 18) ?_ zA38 rfl rfl (Or.inl ⟨by rfl, ?_⟩) ?_ ?_ ?_
      rotate_left
      ·intro w'
       go_simp
       with_reducible rfl
      rotate_left
      ·simp only [Act.put, xA, xB, xC, i64_w, i32_w]
       rfl
      refine zp 6 (some 19) ?_ zA39 rfl rfl (Or.inl ⟨by rfl, ?_⟩) ?_ ?_ ?_
      rotate_left
      ·intro w'
       go_simp
       with_reducible rfl
      rotate_left
      ·simp only [Act.put, xA, xB, xC, i64_w, i32_w]
       rfl
      refine zp 7 (some 20) ?_ zA40 rfl rfl (Or.inl ⟨by rfl, ?_⟩) ?_ ?_ ?_
      rotate_left
      ·intro w'
       go_simp
       with_reducible rfl
      rotate_left
      ·simp only [Act.put, xA, xB, xC, i64_w, i32_w]
       rfl
      refine zp 9 (some 22) ?_ zA67 rfl rfl (Or.inl ⟨by rfl, ?_⟩) ?_ ?_ ?_
      rotate_left
      ·intro w'
       go_simp
       with_reducible rfl
      rotate_left
      ·simp only [Act.put, xA, xB, xC, i64_w, i32_w]
       rfl
      refine zp 10 (some 23) ?_ zA68 rfl rfl (Or.inl ⟨by rfl, ?_⟩) ?_ ?_ ?_
      rotate_left
      ·intro w'
       go_simp
       with_reducible rfl
      rotate_left
      ·simp only [Act.put, xA, xB, xC, i64_w, i32_w]
       rfl
      refine zp 11 (some 24) ?_ zA69 rfl rfl (Or.inl ⟨by rfl, ?_⟩) ?_ ?_ ?_
      rotate_left
      ·intro w'
       go_simp
       with_reducible rfl
      rotate_left
      ·simp only [Act.put, xA, xB, xC, i64_w, i32_w]
       rfl
      refine zu 8 (some 21) ?_ zA44 rfl rfl (Or.inl ⟨by rfl, ?_⟩) hHeld ?_ ?_ ?_
      rotate_left
      ·rintro w' ⟨s0, s1, s2, s3, s4, s5⟩
       go_simp
       with_reducible rfl
      rotate_left
      ·simp only [Act.put, xA, xB, xC, i64_w, i32_w]
       rfl
      refine zu 12 (some 25) ?_ zA45 rfl rfl (Or.inl ⟨by rfl, ?_⟩) hHeld ?_ ?_ ?_
      rotate_left
      ·rintro w' ⟨s0, s1, s2, s3, s4, s5⟩
       go_simp
       with_reducible rfl
      rotate_left
      ·simp only [Act.put, xA, xB, xC, i64_w, i32_w]
       rfl
      refine one_ (i := 13) (N := some 26) zA46 rfl rfl (one_of HT_.out (by kernel_rfl)) (by decide) (fun K hK => ?_)
      refine goes_ Try.func50 (by kernel_rfl) rfl #[.agg #[.int .i64 ((rd_T43 x3_1 x5_2).f0), .int .i64 ((rd_T43 x3_1 x5_2).f1), .int .i64 ((rd_T43 x3_1 x5_2).f2)], .agg #[.int .i64 ((rd_T43 l0 x4_1).f0), .int .i64 ((rd_T43 l0 x4_1).f1), .int .i64 ((rd_T43 l0 x4_1).f2)]] (by rfl) rfl rfl zm ?_
      with_reducible refine (spec_l09Less.calls ((rd_T43 x3_1 x5_2).f0) ((rd_T43 x3_1 x5_2).f1) ((rd_T43 x3_1 x5_2).f2) ((rd_T43 l0 x4_1).f0) ((rd_T43 l0 x4_1).f1) ((rd_T43 l0 x4_1).f2) true _ A9.out).mono ?_
      rintro e w13 ⟨rfl, hb⟩
      have HS0_ := zk hb (hHeld.1)
      have HS1_ := zk hb (hHeld.2.1)
      have HS2_ := zk hb (hHeld.2.2.1)
      refine ⟨_, rfl, ?_⟩
      have n0_ := aM (Kd.R_below (mR_ HO_3.out) hb)
      have n1_ := aM (below_step zb hb)
      clear HO_3
      clear HB
      have HO_3 := n0_
      have HB := n1_
      clear n0_ n1_
      (try clear hb)
      (try clear hb2)
      (try clear hk)
      (try clear hi)
      refine hK.out _ _ ⟨HS0_, HS1_, HS2_, (zk HB.out hw195_0), (zk HB.out hw195_1), (zk HB.out hw195_2)⟩ (fun hHeld => ?_)
      clear hK K
      refine norm_ (a' := ?_) ?_ ?_
      rotate_left
      ·show Act.put _ (some 26) _ = _
       simp only [Act.put, xA, xB, xC, i64_w, i32_w]
       rfl
      refine zp 14 (some 27) ?_ zA47 rfl rfl (Or.inl ⟨by rfl, ?_⟩) ?_ ?_ ?_
      rotate_left
      ·intro w'
       go_simp
       with_reducible rfl
      rotate_left
      ·simp only [Act.put, xA, xB, xC, i64_w, i32_w]
       rfl
      refine done_ (done_of HT_.out (by kernel_rfl)) ?_
      try go_wp2
      go_roundg k2
      case measure => have := HK1.out; have := HK2.out; omega
      case rel => exact ⟨(wrap64 (x5_2 + 1)), zr, H', ⟨by have := HK1.out; have := HK2.out; omega⟩, ⟨mR_ HO_3.out⟩, ⟨zb⟩⟩
     replace c10 := Bool.eq_false_iff.mpr c10
     subst c10
     have H1 : ((some (([] : List (S43)) : List (S43))).bind fun y197 => (if x5_2 ≤ (x3_1.length : Int) then ((some (x3_1.take (x5_2 : Int).toNat : List (S43))).bind fun y200 => (if y197.length + y200.length < 5864062014805 then ((some (y197 ++ y200 : List (S43))).bind fun y204 => ((some (([(⟨(rd_T43 l0 x4_1).f0, (rd_T43 l0 x4_1).f1, (rd_T43 l0 x4_1).f2⟩ : S43)] : List (S43)) : List (S43))).bind fun y208 => (if y204.length + y208.length < 5864062014805 then ((some (y204 ++ y208 : List (S43))).bind fun y211 => ((some (x3_1.drop (x5_2 : Int).toNat : List (S43))).bind fun y214 => (if y211.length + y214.length < 5864062014805 then (spec_l09Sort.l0 k2 l0 (y211 ++ y214) (wrap64 (x4_1 + 1))) else (none)))) else (none)))) else (none))) else (none))) = some r := by rw [if_neg (show ¬ (false = true) by decide)] at H; exact H
     clear H
     have H := H1
     clear H1
     obtain ⟨y197, hy197⟩ : ∃ y_ : List (S43), y_ = (([] : List (S43))) := ⟨_, rfl⟩
     replace H : (if x5_2 ≤ (x3_1.length : Int) then ((some (x3_1.take (x5_2 : Int).toNat : List (S43))).bind fun y200 => (if y197.length + y200.length < 5864062014805 then ((some (y197 ++ y200 : List (S43))).bind fun y204 => ((some (([(⟨(rd_T43 l0 x4_1).f0, (rd_T43 l0 x4_1).f1, (rd_T43 l0 x4_1).f2⟩ : S43)] : List (S43)) : List (S43))).bind fun y208 => (if y204.length + y208.length < 5864062014805 then ((some (y204 ++ y208 : List (S43))).bind fun y211 => ((some (x3_1.drop (x5_2 : Int).toNat : List (S43))).bind fun y214 => (if y211.length + y214.length < 5864062014805 then (spec_l09Sort.l0 k2 l0 (y211 ++ y214) (wrap64 (x4_1 + 1))) else (none)))) else (none)))) else (none))) else (none)) = some r := zy H hy197
     have Ny197 := aM hy197
     clear hy197
     have c14b0 := eq_true (of_decide_eq_true za : 0 ≤ x5_2)
     by_cases c15 : x5_2 ≤ (x3_1.length : Int)
     rotate_left
     ·rw [if_neg c15] at H
      exact absurd H (by simp)
     rw [if_pos c15] at H
     have c15b0 := eq_true c15
     have c15b1 : decide (x5_2 ≤ (x3_1.length : Int)) = true := decide_eq_true c15
     clear c15
     obtain ⟨y200, hy200⟩ : ∃ y_ : List (S43), y_ = (x3_1.take (x5_2 : Int).toNat) := ⟨_, rfl⟩
     replace H : (if y197.length + y200.length < 5864062014805 then ((some (y197 ++ y200 : List (S43))).bind fun y204 => ((some (([(⟨(rd_T43 l0 x4_1).f0, (rd_T43 l0 x4_1).f1, (rd_T43 l0 x4_1).f2⟩ : S43)] : List (S43)) : List (S43))).bind fun y208 => (if y204.length + y208.length < 5864062014805 then ((some (y204 ++ y208 : List (S43))).bind fun y211 => ((some (x3_1.drop (x5_2 : Int).toNat : List (S43))).bind fun y214 => (if y211.length + y214.length < 5864062014805 then (spec_l09Sort.l0 k2 l0 (y211 ++ y214) (wrap64 (x4_1 + 1))) else (none)))) else (none)))) else (none)) = some r := zy H hy200
     have Ny200 := aM hy200
     clear hy200
     by_cases c16 : y197.length + y200.length < 5864062014805
     rotate_left
     ·rw [if_neg c16] at H
      exact absurd H (by simp)
     rw [if_pos c16] at H
     have LMc16 := aM c16
     clear c16
     obtain ⟨y204, hy204⟩ : ∃ y_ : List (S43), y_ = (y197 ++ y200) := ⟨_, rfl⟩
     replace H : ((some (([(⟨(rd_T43 l0 x4_1).f0, (rd_T43 l0 x4_1).f1, (rd_T43 l0 x4_1).f2⟩ : S43)] : List (S43)) : List (S43))).bind fun y208 => (if y204.length + y208.length < 5864062014805 then ((some (y204 ++ y208 : List (S43))).bind fun y211 => ((some (x3_1.drop (x5_2 : Int).toNat : List (S43))).bind fun y214 => (if y211.length + y214.length < 5864062014805 then (spec_l09Sort.l0 k2 l0 (y211 ++ y214) (wrap64 (x4_1 + 1))) else (none)))) else (none))) = some r := zy H hy204
     have Ny204 := aM hy204
     clear hy204
     obtain ⟨y208, hy208⟩ : ∃ y_ : List (S43), y_ = (([(⟨(rd_T43 l0 x4_1).f0, (rd_T43 l0 x4_1).f1, (rd_T43 l0 x4_1).f2⟩ : S43)] : List (S43))) := ⟨_, rfl⟩
     replace H : (if y204.length + y208.length < 5864062014805 then ((some (y204 ++ y208 : List (S43))).bind fun y211 => ((some (x3_1.drop (x5_2 : Int).toNat : List (S43))).bind fun y214 => (if y211.length + y214.length < 5864062014805 then (spec_l09Sort.l0 k2 l0 (y211 ++ y214) (wrap64 (x4_1 + 1))) else (none)))) else (none)) = some r := zy H hy208
     have Ny208 := aM hy208
     clear hy208
     by_cases c17 : y204.length + y208.length < 5864062014805
     rotate_left
     ·rw [if_neg c17] at H
      exact absurd H (by simp)
     rw [if_pos c17] at H
     have LMc17 := aM c17
     clear c17
     obtain ⟨y211, hy211⟩ : ∃ y_ : List (S43), y_ = (y204 ++ y208) := ⟨_, rfl⟩
     replace H : ((some (x3_1.drop (x5_2 : Int).toNat : List (S43))).bind fun y214 => (if y211.length + y214.length < 5864062014805 then (spec_l09Sort.l0 k2 l0 (y211 ++ y214) (wrap64 (x4_1 + 1))) else (none))) = some r := zy H hy211
     have Ny211 := aM hy211
     clear hy211
     have c18b0 := eq_true (of_decide_eq_true za : 0 ≤ x5_2)
     have c19b0 := eq_true (of_decide_eq_true za : x5_2 ≤ (x3_1.length : Int))
     obtain ⟨y214, hy214⟩ : ∃ y_ : List (S43), y_ = (x3_1.drop (x5_2 : Int).toNat) := ⟨_, rfl⟩
     replace H : (if y211.length + y214.length < 5864062014805 then (spec_l09Sort.l0 k2 l0 (y211 ++ y214) (wrap64 (x4_1 + 1))) else (none)) = some r := zy H hy214
     have Ny214 := aM hy214
     clear hy214
     by_cases c20 : y211.length + y214.length < 5864062014805
     rotate_left
     ·rw [if_neg c20] at H
      exact absurd H (by simp)
     rw [if_pos c20] at H
     have LMc20 := aM c20
     clear c20
     obtain ⟨y218, hy218⟩ : ∃ y_ : List (S43), y_ = (y211 ++ y214) := ⟨_, rfl⟩
     replace H : (spec_l09Sort.l0 k2 l0 y218 (wrap64 (x4_1 + 1))) = some r := zy H hy218
     have Ny218 := aM hy218
     clear hy218
     have H' := aM H
     clear H
     try go_wp2
     have n0_ := aM (Kd.R_drew HO_3.out)
     have n1_ := aM (below_drew1 HB.out)
     clear HO_3
     clear HB
     have HO_3 := n0_
     have HB := n1_
     clear n0_ n1_
     obtain ⟨Ao22, co22, eo22⟩ := Kd.R_slice HO_3.out
     (first | subst eo22 | (injection eo22 with f1_ f2_ f3_; have f4_ := f1_.symm; have f5_ := f3_.symm; clear f1_ f2_ f3_; subst f4_; subst f5_))
     have p194 : 0 ≤ (x5_2 : Int) := of_decide_eq_true za
     have q194 : x5_2 < (x3_1.length : Int) := of_decide_eq_true za
     obtain ⟨ad194, e194, hx194_0, hx194_1, hx194_2⟩ := at_T43 (Kd.R_reads' HO_3.out).2.2 x5_2 p194 q194
     cases e194
     replace p194 := eq_true p194
     replace q194 := eq_true q194
     have p195 : 0 ≤ (x4_1 : Int) := of_decide_eq_true za
     have q195 : x4_1 < (l0.length : Int) := of_decide_eq_true za
     obtain ⟨ad195, e195, hx195_0, hx195_1, hx195_2⟩ := at_T43 HR0.out x4_1 p195 q195
     have hw195_2 := hx195_2
     have hw195_1 := hx195_1
     have hw195_0 := hx195_0
     cases e195
     replace hx195_0 := zk HB.out hx195_0
     replace hx195_1 := zk HB.out hx195_1
     replace hx195_2 := zk HB.out hx195_2
     replace p195 := eq_true p195
     replace q195 := eq_true q195
     refine start_ (n := 15) (S := fun w' => (spec_l09Sort.c3 w' ad194 x5_2 x3_1 ((spec_l09Sort.d3 w' ad195 x4_1 l0)))) (ds := []) zA32 (by kernel_rfl) rfl rfl ⟨hx194_0, hx194_1, hx194_2, (zk HB.out hw195_0), (zk HB.out hw195_1), (zk HB.out hw195_2)⟩ (fun hHeld => ?_); refine with_tabW spec_l09Sort.tab6 spec_l09Sort.bits6 (fun HT_ HW_ => ?_)
     generalize wr.drew = w21 at HO_3 HB hx194_0 hx194_1 hx194_2 hx195_0 hx195_1 hx195_2 hHeld ⊢
     refine zp 0 (some 13) ?_ zA33 rfl rfl (Or.inl ⟨by rfl, ?_⟩) ?_ ?_ ?_
     rotate_left
     ·intro w'
      go_simp
      with_reducible rfl
     rotate_left
     ·simp only [Act.put, xA, xB, xC, i64_w, i32_w]
      rfl
     refine zp 1 (some 14) ?_ zA34 rfl rfl (Or.inl ⟨by rfl, ?_⟩) ?_ ?_ ?_
     rotate_left
     ·intro w'
      go_simp
      with_reducible rfl
     rotate_left
     ·simp only [Act.put, xA, xB, xC, i64_w, i32_w]
      rfl
     refine zp 2 (some 15) ?_ zA35 rfl rfl (Or.inl ⟨by rfl, ?_⟩) ?_ ?_ ?_
     rotate_left
     ·intro w'
      go_simp
      with_reducible rfl
     rotate_left
     ·simp only [Act.put, xA, xB, xC, i64_w, i32_w]
      rfl
     refine zp 3 (some 16) ?_ zA36 rfl rfl (Or.inl ⟨by rfl, ?_⟩) ?_ ?_ ?_
     rotate_left
     ·intro w'
      go_simp
      with_reducible rfl
     rotate_left
     ·simp only [Act.put, xA, xB, xC, i64_w, i32_w]
      rfl
     refine zp 4 (some 17) ?_ zA37 rfl rfl (Or.inl ⟨by rfl, ?_⟩) ?_ ?_ ?_
     rotate_left
     ·intro w'
      go_simp
      with_reducible rfl
     rotate_left
     ·simp only [Act.put, xA, xB, xC, i64_w, i32_w]
      rfl
     refine zp 5 (some 18) ?_ zA38 rfl rfl (Or.inl ⟨by rfl, ?_⟩) ?_ ?_ ?_
     rotate_left
     ·intro w'
      go_simp
      with_reducible rfl
     rotate_left
     ·simp only [Act.put, xA, xB, xC, i64_w, i32_w]
      rfl
     refine zp 6 (some 19) ?_ zA39 rfl rfl (Or.inl ⟨by rfl, ?_⟩) ?_ ?_ ?_
     rotate_left
     ·intro w'
      go_simp
      with_reducible rfl
     rotate_left
     ·simp only [Act.put, xA, xB, xC, i64_w, i32_w]
      rfl
     refine zp 7 (some 20) ?_ zA40 rfl rfl (Or.inl ⟨by rfl, ?_⟩) ?_ ?_ ?_
     rotate_left
     ·intro w'
      go_simp
      with_reducible rfl
     rotate_left
     ·simp only [Act.put, xA, xB, xC, i64_w, i32_w]
      rfl
     refine zp 9 (some 22) ?_ zA67 rfl rfl (Or.inl ⟨by rfl, ?_⟩) ?_ ?_ ?_
     rotate_left
     ·intro w'
      go_simp
      with_reducible rfl
     rotate_left
     ·simp only [Act.put, xA, xB, xC, i64_w, i32_w]
      rfl
     refine zp 10 (some 23) ?_ zA68 rfl rfl (Or.inl ⟨by rfl, ?_⟩) ?_ ?_ ?_
     rotate_left
     ·intro w'
      go_simp
      with_reducible rfl
     rotate_left
     ·simp only [Act.put, xA, xB, xC, i64_w, i32_w]
      rfl
     refine zp 11 (some 24) ?_ zA69 rfl rfl (Or.inl ⟨by rfl, ?_⟩) ?_ ?_ ?_
     rotate_left
     ·intro w'
      go_simp
      with_reducible rfl
     rotate_left
     ·simp only [Act.put, xA, xB, xC, i64_w, i32_w]
      rfl
     refine zu 8 (some 21) ?_ zA44 rfl rfl (Or.inl ⟨by rfl, ?_⟩) hHeld ?_ ?_ ?_
     rotate_left
     ·rintro w' ⟨s0, s1, s2, s3, s4, s5⟩
      go_simp
      with_reducible rfl
     rotate_left
     ·simp only [Act.put, xA, xB, xC, i64_w, i32_w]
      rfl
     refine zu 12 (some 25) ?_ zA45 rfl rfl (Or.inl ⟨by rfl, ?_⟩) hHeld ?_ ?_ ?_
     rotate_left
     ·rintro w' ⟨s0, s1, s2, s3, s4, s5⟩
      go_simp
      with_reducible rfl
     rotate_left
     ·simp only [Act.put, xA, xB, xC, i64_w, i32_w]
      rfl
     refine one_ (i := 13) (N := some 26) zA46 rfl rfl (one_of HT_.out (by kernel_rfl)) (by decide) (fun K hK => ?_)
     refine goes_ Try.func50 (by kernel_rfl) rfl #[.agg #[.int .i64 ((rd_T43 x3_1 x5_2).f0), .int .i64 ((rd_T43 x3_1 x5_2).f1), .int .i64 ((rd_T43 x3_1 x5_2).f2)], .agg #[.int .i64 ((rd_T43 l0 x4_1).f0), .int .i64 ((rd_T43 l0 x4_1).f1), .int .i64 ((rd_T43 l0 x4_1).f2)]] (by rfl) rfl rfl zm ?_
     with_reducible refine (spec_l09Less.calls ((rd_T43 x3_1 x5_2).f0) ((rd_T43 x3_1 x5_2).f1) ((rd_T43 x3_1 x5_2).f2) ((rd_T43 l0 x4_1).f0) ((rd_T43 l0 x4_1).f1) ((rd_T43 l0 x4_1).f2) false _ A9.out).mono ?_
     rintro e w23 ⟨rfl, hb⟩
     have HS0_ := zk hb (hHeld.1)
     have HS1_ := zk hb (hHeld.2.1)
     have HS2_ := zk hb (hHeld.2.2.1)
     refine ⟨_, rfl, ?_⟩
     have n0_ := aM (Kd.R_below (mR_ HO_3.out) hb)
     have n1_ := aM (below_step zb hb)
     clear HO_3
     clear HB
     have HO_3 := n0_
     have HB := n1_
     clear n0_ n1_
     (try clear hb)
     (try clear hb2)
     (try clear hk)
     (try clear hi)
     refine hK.out _ _ ⟨HS0_, HS1_, HS2_, (zk HB.out hw195_0), (zk HB.out hw195_1), (zk HB.out hw195_2)⟩ (fun hHeld => ?_)
     clear hK K
     refine norm_ (a' := ?_) ?_ ?_
     rotate_left
     ·show Act.put _ (some 26) _ = _
      simp only [Act.put, xA, xB, xC, i64_w, i32_w]
      rfl
     refine zp 14 (some 27) ?_ zA47 rfl rfl (Or.inl ⟨by rfl, ?_⟩) ?_ ?_ ?_
     rotate_left
     ·intro w'
      go_simp
      with_reducible rfl
     rotate_left
     ·simp only [Act.put, xA, xB, xC, i64_w, i32_w]
      rfl
     refine done_ (done_of HT_.out (by kernel_rfl)) ?_
     try go_wp2
     have n0_ := aM (Kd.R_drew HO_3.out)
     have n1_ := aM (below_drew1 HB.out)
     clear HO_3
     clear HB
     have HO_3 := n0_
     have HB := n1_
     clear n0_ n1_
     have q25 : (x5_2 : Int) ≤ ((x3_1.length : Int) : Int) := of_decide_eq_true za
     obtain ⟨i025, hi025, _, hsz25, _⟩ := info_parts info43
     have hroom25 : x3_1.length ≤ co22 := (Kd.R_reads' HO_3.out).2.1
     have hC25 : Kd.C k43 _ (some ad194) x3_1.length x3_1 := (Kd.R_reads' HO_3.out).2.2
     have hcut25 := cut_to (P := Try.prog) 40 43 .i64 Try.underlying40 hi025 (some ad194) x3_1.length co22 x5_2 (of_decide_eq_true za) q25 hroom25
     have hr25 := Kd.C_take (m := (x5_2 : Int).toNat) hC25 (by omega)
     have hy25 : y200.length = (x5_2 : Int).toNat := (by rw [Ny200.out, List.length_take]; omega)
     rw [← Ny200.out] at hr25
     rw [← hy25] at hcut25
     have HR203 := aM hr25
     have HC203 := aM (show y200.length ≤ co22 from by omega)
     clear hr25 hC25 hroom25 hi025 hsz25
     have KY25 := aM hy25
     clear hy25
     have KL25 := aM (show (x5_2 : Int).toNat ≤ x3_1.length from by omega)
     replace q25 := eq_true q25
     have p207 : 0 ≤ (x4_1 : Int) := of_decide_eq_true za
     have q207 : x4_1 < (l0.length : Int) := of_decide_eq_true za
     obtain ⟨ad207, e207, hx207_0, hx207_1, hx207_2⟩ := at_T43 HR0.out x4_1 p207 q207
     have hw207_2 := hx207_2
     have hw207_1 := hx207_1
     have hw207_0 := hx207_0
     obtain rfl : ad195 = ad207 := (by injection e207)
     replace hx207_0 := zk HB.out hx207_0
     replace hx207_1 := zk HB.out hx207_1
     replace hx207_2 := zk HB.out hx207_2
     replace p207 := eq_true p207
     replace q207 := eq_true q207
     have q26 : (x5_2 : Int) ≤ ((x3_1.length : Int) : Int) := of_decide_eq_true za
     obtain ⟨i026, hi026, _, hsz26, _⟩ := info_parts info43
     have hroom26 : x3_1.length ≤ co22 := (Kd.R_reads' HO_3.out).2.1
     have hC26 : Kd.C k43 _ (some ad194) x3_1.length x3_1 := (Kd.R_reads' HO_3.out).2.2
     have q026 : (0 : Int) ≤ (x5_2 : Int) := of_decide_eq_true za
     have hcut26 := cut_from (P := Try.prog) 40 43 .i64 Try.underlying40 hi026 3 hsz26 (some ad194) x3_1.length co22 x5_2 q026 q26
     have hr26 := Kd.C_drop (m := (x5_2 : Int).toNat) (c := co22) hC26 (by omega) hroom26
     obtain ⟨A26, hA26⟩ : ∃ A1, A1 = (if co22 = (x5_2 : Int).toNat then (some ad194) else ((some ad194) : Option Addr).map (·.add ((x5_2 : Int).toNat * 3))) := ⟨_, rfl⟩
     obtain ⟨c26, hc26⟩ : ∃ c1, c1 = co22 - (x5_2 : Int).toNat := ⟨_, rfl⟩
     have hy26 : y214.length = x3_1.length - (x5_2 : Int).toNat := (by rw [Ny214.out, List.length_drop] <;> omega)
     rw [show (x3_1).drop (x5_2 : Int).toNat = y214 from Ny214.out.symm] at hr26
     replace hr26 : Kd.C k43 _ A26 y214.length y214 := (by rw [hA26]; exact hr26)
     rw [← hy26, ← hA26, ← hc26] at hcut26
     have HR217 := aM hr26
     have HC217 := aM (show y214.length ≤ c26 from by rw [hy26, hc26]; exact Nat.sub_le_sub_right hroom26 _)
     clear hr26 hC26 hroom26 hi026 hsz26 hc26
     have KY26 := aM hy26
     have KA26 := aM hA26
     clear hy26 hA26
     have KL26 := aM (show (x5_2 : Int).toNat ≤ x3_1.length from by omega)
     replace q26 := eq_true q26
     refine start_ (n := 16) (S := fun w' => (spec_l09Sort.d3 w' ad195 x4_1 l0)) (ds := []) zA48 (by kernel_rfl) rfl rfl ⟨(zk HB.out hw207_0), (zk HB.out hw207_1), (zk HB.out hw207_2)⟩ (fun hHeld => ?_); refine with_tabW spec_l09Sort.tab8 spec_l09Sort.bits8 (fun HT_ HW_ => ?_)
     generalize w23.drew = w24 at HO_3 HB HR203 HR217 hx207_0 hx207_1 hx207_2 hHeld ⊢
     refine zp 1 (some 31) ?_ zA49 rfl rfl (Or.inl ⟨by rfl, ?_⟩) ?_ ?_ ?_
     rotate_left
     ·intro w'
      go_simp
      with_reducible rfl
     rotate_left
     ·simp only [Act.put, xA, xB, xC, i64_w, i32_w]
      rfl
     refine zp 2 (some 32) ?_ zA50 rfl rfl (Or.inl ⟨by rfl, ?_⟩) ?_ ?_ ?_
     rotate_left
     ·intro w'
      go_simp
      with_reducible rfl
     rotate_left
     ·simp only [Act.put, xA, xB, xC, i64_w, i32_w]
      rfl
     refine zp 3 (some 33) ?_ zA51 rfl rfl (Or.inl ⟨by rfl, ?_⟩) ?_ ?_ ?_
     rotate_left
     ·intro w'
      go_simp
      with_reducible rfl
     rotate_left
     ·simp only [Act.put, xA, xB, xC, i64_w, i32_w]
      rfl
     refine zp 5 (some 35) ?_ zA52 rfl rfl (Or.inl ⟨by rfl, ?_⟩) ?_ ?_ ?_
     rotate_left
     ·intro w'
      go_simp
      with_reducible rfl
     rotate_left
     ·simp only [Act.put, xA, xB, xC, i64_w, i32_w]
      rfl
     refine zp 6 (some 36) ?_ zA53 rfl rfl (Or.inl ⟨by rfl, ?_⟩) ?_ ?_ ?_
     rotate_left
     ·intro w'
      go_simp
      with_reducible rfl
     rotate_left
     ·simp only [Act.put, xA, xB, xC, i64_w, i32_w]
      rfl
     refine zp 7 (some 37) ?_ zA54 rfl rfl (Or.inl ⟨by rfl, ?_⟩) ?_ ?_ ?_
     rotate_left
     ·intro w'
      go_simp
      with_reducible rfl
     rotate_left
     ·simp only [Act.put, xA, xB, xC, i64_w, i32_w]
      rfl
     refine zp 11 (some 41) ?_ zA55 rfl rfl (Or.inl ⟨by rfl, ?_⟩) ?_ ?_ ?_
     rotate_left
     ·intro w'
      go_simp
      with_reducible rfl
     rotate_left
     ·simp only [Act.put, xA, xB, xC, i64_w, i32_w]
      rfl
     refine zp 12 (some 42) ?_ zA56 rfl rfl (Or.inl ⟨by rfl, ?_⟩) ?_ ?_ ?_
     rotate_left
     ·intro w'
      go_simp
      with_reducible rfl
     rotate_left
     ·simp only [Act.put, xA, xB, xC, i64_w, i32_w]
      rfl
     refine zp 13 (some 43) ?_ zA57 rfl rfl (Or.inl ⟨by rfl, ?_⟩) ?_ ?_ ?_
     rotate_left
     ·intro w'
      go_simp
      with_reducible rfl
     rotate_left
     ·simp only [Act.put, xA, xB, xC, i64_w, i32_w]
      rfl
     refine zu 8 (some 38) ?_ zA58 rfl rfl (Or.inl ⟨by rfl, ?_⟩) hHeld ?_ ?_ ?_
     rotate_left
     ·rintro w' ⟨s0, s1, s2⟩
      go_simp
      with_reducible rfl
     rotate_left
     ·simp only [Act.put, xA, xB, xC, i64_w, i32_w]
      rfl
     refine join_ (σ := Value × Value × Value) 3 zA59 (fun s_ => [(30, s_.1), (34, s_.2.1), (39, s_.2.2)]) (fun s_ w' => ((spec_l09Sort.d3 w' ad195 x4_1 l0)) ∧ (Kd.R k43 43 w' w.heap.size (fun k_ => some k_ ≠ (s_.2.2 : Value).ownBlock ∧ some k_ ≠ (.slice (some ad194) x3_1.length co22 : Value).ownBlock) s_.2.1 y204) ∧ (Kd.R k43 43 w' w.heap.size (fun k_ => some k_ ≠ (s_.2.1 : Value).ownBlock ∧ some k_ ≠ (.slice (some ad194) x3_1.length co22 : Value).ownBlock) s_.2.2 y208) ∧ (Kd.R k43 43 w' w.heap.size (fun k_ => some k_ ≠ (s_.2.1 : Value).ownBlock ∧ some k_ ≠ (s_.2.2 : Value).ownBlock) (.slice (some ad194) x3_1.length co22) x3_1) ∧ (Below w.heap.size w w')) ?_ ?_
     rotate_left
     ·intro hCont
      refine two_ (i := 0) (j := 9) (Ni := some 30) (Nj := some 39) zA60 zA61 rfl rfl rfl rfl (two_of HT_.out (by kernel_rfl)) (by decide) (by decide) (fun K hK => ?_) (fun K hK => ?_)
      ·skip
       refine Kd.R_lit_step k43 _ 43 ?hg (N := 30) ?hd (xs := ([] : List (S43))) (inner := []) (ok := fun _ => True) (okp := fun _ => True) ?hr ?hp (fun _ hk => hk) trivial (Below.refl _ _) (Nat.le_refl _) (by simp) ?_; (case hd => rfl); (case hg => rfl); (case hr => first | (go_simp; done) | (go_simp; rfl)); (case hp => exact (Reps.none _ _))
       intro v198 w27 ho28 hb hg_ hnew_
       clear hg_ hnew_
       (first | rw [← Ny197.out] at ho28 | (simp only [Int.reduceToNat] at ho28; rw [← Ny197.out] at ho28))
       have n0_ := aM (Kd.R_elder' (mR_ HO_3.out) (Kd.R_base ho28) hb)
       have n1_ := aM (Kd.R_lower (Kd.R_new' ho28 (Kd.R_lt (mR_ HO_3.out))) (below_size zb))
       have n2_ := aM (Kd.C_below (mQ_ HR203.out) hb)
       have n3_ := aM (Kd.C_below (mQ_ HR217.out) hb)
       have n4_ := aM (below_step zb hb)
       clear HO_3
       clear HR203
       clear HR217
       clear HB
       have HO_3 := n0_
       have HO199 := n1_
       have HR203 := n2_
       have HR217 := n3_
       have HB := n4_
       clear n0_ n1_ n2_ n3_ n4_
       clear hb ho28
       refine hK.out _ _ ⟨(zk HB.out hw207_0), (zk HB.out hw207_1), (zk HB.out hw207_2)⟩ (fun hHeld => ?_)
       clear hK K
       refine norm_ (a' := ?_) ?_ ?_
       rotate_left
       ·show Act.put _ (some 30) _ = _
        simp only [Act.put, xA, xB, xC, i64_w, i32_w]
        rfl
       refine two_ (i := 4) (j := 9) (Ni := some 34) (Nj := some 39) zA62 zA63 rfl rfl rfl rfl (two_of HT_.out (by kernel_rfl)) (by decide) (by decide) (fun K hK => ?_) (fun K hK => ?_)
       ·skip
        refine Kd.R_append_rows_step k43 (w0 := w) w.heap.size (by rfl) (.tmp 30) (.tmp 33) 40 43 (.agg #[(.int .i64 0), (.int .i64 0), (.int .i64 0)]) 24 rfl Try.underlying40 info43 rfl (by decide) (by omega) v198 y197 y200 _ _ _ (fun k_ => some k_ ≠ (.slice (some ad194) x3_1.length co22 : Value).ownBlock) (fun _ => False) rfl rfl ?aO ?aR (fun _ _ h => h) (fun _ h => h.elim) ?aF ?aB ?aS ?aL ?_
        (case aR => repeat (first | exact (mQ_ HR203.out) | (with_reducible refine Kd.C_alloc ?_ _) | (with_reducible refine Kd.C_drewN ?_ _) | (with_reducible refine Kd.C_drew ?_)))
        (case aB => exact zb)
        (case aF => exact (fun k_ hk => Kd.fresh' (Kd.R_lt (mR_ HO_3.out)) k_ hk))
        (case aO => exact (zd5 HO199.out))
        (case aS => exact (below_size zb))
        (case aL => have := LMc16.out; omega)
        intro v205 w29 ho hb hg hat
        rw [← Ny204.out] at ho
        have n0_ := aM (Kd.R_after (ok := (fun _ => True)) (mR_ HO_3.out) hg hat)
        have n1_ := aM (hb)
        have n2_ := aM ((show Kd.C k43 w29 (some ad194) y200.length y200 from by rw [Ny200.out]; exact Kd.C_take (m := (x5_2 : Int).toNat) ((Kd.R_reads' (Kd.R_after (ok := (fun _ => True)) (mR_ HO_3.out) hg hat)).2.2) KL25.out))
        have n3_ := aM ((show Kd.C k43 w29 A26 y214.length y214 from by rw [Ny214.out, KA26.out]; exact Kd.C_drop (m := (x5_2 : Int).toNat) (c := co22) ((Kd.R_reads' (Kd.R_after (ok := (fun _ => True)) (mR_ HO_3.out) hg hat)).2.2) KL26.out ((Kd.R_reads' (Kd.R_after (ok := (fun _ => True)) (mR_ HO_3.out) hg hat)).2.1)))
        have n4_ := aM (ho)
        clear HO_3
        clear HB
        clear HR203
        clear HR217
        clear HO199
        have HO_3 := n0_
        have HB := n1_
        have HR203 := n2_
        have HR217 := n3_
        have HO206 := n4_
        clear n0_ n1_ n2_ n3_ n4_
        clear ho hb hg hat
        refine hK.out _ _ ⟨(zk HB.out hw207_0), (zk HB.out hw207_1), (zk HB.out hw207_2)⟩ (fun hHeld => ?_)
        clear hK K
        refine norm_ (a' := ?_) ?_ ?_
        rotate_left
        ·show Act.put _ (some 34) _ = _
         simp only [Act.put, xA, xB, xC, i64_w, i32_w]
         rfl
        refine one_ (i := 9) (N := some 39) zA59 rfl rfl (one_of HT_.out (by kernel_rfl)) (by decide) (fun K hK => ?_)
        refine Kd.R_lit_step k43 _ 43 ?hg (N := 39) ?hd (xs := ([(⟨(rd_T43 l0 x4_1).f0, (rd_T43 l0 x4_1).f1, (rd_T43 l0 x4_1).f2⟩ : S43)] : List (S43))) (inner := [.int .i64 ((rd_T43 l0 x4_1).f0), .int .i64 ((rd_T43 l0 x4_1).f1), .int .i64 ((rd_T43 l0 x4_1).f2)]) (ok := fun _ => True) (okp := fun _ => True) ?hr ?hp (fun _ hk => hk) trivial (Below.refl _ _) (Nat.le_refl _) (by simp) ?_; (case hd => rfl); (case hg => rfl); (case hr => first | (go_simp; done) | (go_simp; rfl)); (case hp => exact (Reps.c3 (show Kd.M k43 _ _ _ (⟨(rd_T43 l0 x4_1).f0, (rd_T43 l0 x4_1).f1, (rd_T43 l0 x4_1).f2⟩ : S43) [.int .i64 ((rd_T43 l0 x4_1).f0), .int .i64 ((rd_T43 l0 x4_1).f1), .int .i64 ((rd_T43 l0 x4_1).f2)] from (k43_mkM _ _ _ (⟨(rd_T43 l0 x4_1).f0, (rd_T43 l0 x4_1).f1, (rd_T43 l0 x4_1).f2⟩ : S43) )) (Reps.none _ _)))
        intro v209 w30 ho31 hb hg_ hnew_
        clear hg_ hnew_
        (first | rw [← Ny208.out] at ho31 | (simp only [Int.reduceToNat] at ho31; rw [← Ny208.out] at ho31))
        have n0_ := aM (Kd.R_elder' (mR_ HO_3.out) (Kd.R_base ho31) hb)
        have n1_ := aM (Kd.R_elder' (mR_ HO206.out) (Kd.R_base ho31) hb)
        have n2_ := aM (Kd.R_lower (Kd.R_new' (Kd.R_new' ho31 (Kd.R_lt (mR_ HO_3.out))) (Kd.R_lt (mR_ HO206.out))) (below_size zb))
        have n3_ := aM (Kd.C_below (mQ_ HR203.out) hb)
        have n4_ := aM (Kd.C_below (mQ_ HR217.out) hb)
        have n5_ := aM (below_step zb hb)
        clear HO_3
        clear HO206
        clear HR203
        clear HR217
        clear HB
        have HO_3 := n0_
        have HO206 := n1_
        have HO210 := n2_
        have HR203 := n3_
        have HR217 := n4_
        have HB := n5_
        clear n0_ n1_ n2_ n3_ n4_ n5_
        clear hb ho31
        refine hK.out _ _ ⟨(zk HB.out hw207_0), (zk HB.out hw207_1), (zk HB.out hw207_2)⟩ (fun hHeld => ?_)
        clear hK K
        refine norm_ (a' := ?_) ?_ ?_
        rotate_left
        ·show Act.put _ (some 39) _ = _
         simp only [Act.put, xA, xB, xC, i64_w, i32_w]
         rfl
        exact norm_ (by simp only [putAll, Act.put, xA, xB, xC]) (hCont (v198, v205, v209) _ ⟨hHeld, (zd7 HO206.out), (zd8 HO210.out), (zd9 HO_3.out), zb⟩)
       ·skip
        refine Kd.R_lit_step k43 _ 43 ?hg (N := 39) ?hd (xs := ([(⟨(rd_T43 l0 x4_1).f0, (rd_T43 l0 x4_1).f1, (rd_T43 l0 x4_1).f2⟩ : S43)] : List (S43))) (inner := [.int .i64 ((rd_T43 l0 x4_1).f0), .int .i64 ((rd_T43 l0 x4_1).f1), .int .i64 ((rd_T43 l0 x4_1).f2)]) (ok := fun _ => True) (okp := fun _ => True) ?hr ?hp (fun _ hk => hk) trivial (Below.refl _ _) (Nat.le_refl _) (by simp) ?_; (case hd => rfl); (case hg => rfl); (case hr => first | (go_simp; done) | (go_simp; rfl)); (case hp => exact (Reps.c3 (show Kd.M k43 _ _ _ (⟨(rd_T43 l0 x4_1).f0, (rd_T43 l0 x4_1).f1, (rd_T43 l0 x4_1).f2⟩ : S43) [.int .i64 ((rd_T43 l0 x4_1).f0), .int .i64 ((rd_T43 l0 x4_1).f1), .int .i64 ((rd_T43 l0 x4_1).f2)] from (k43_mkM _ _ _ (⟨(rd_T43 l0 x4_1).f0, (rd_T43 l0 x4_1).f1, (rd_T43 l0 x4_1).f2⟩ : S43) )) (Reps.none _ _)))
        intro v209 w29 ho30 hb hg_ hnew_
        clear hg_ hnew_
        (first | rw [← Ny208.out] at ho30 | (simp only [Int.reduceToNat] at ho30; rw [← Ny208.out] at ho30))
        have n0_ := aM (Kd.R_elder' (mR_ HO_3.out) (Kd.R_base ho30) hb)
        have n1_ := aM (Kd.R_elder' (mR_ HO199.out) (Kd.R_base ho30) hb)
        have n2_ := aM (Kd.R_lower (Kd.R_new' (Kd.R_new' ho30 (Kd.R_lt (mR_ HO_3.out))) (Kd.R_lt (mR_ HO199.out))) (below_size zb))
        have n3_ := aM (Kd.C_below (mQ_ HR203.out) hb)
        have n4_ := aM (Kd.C_below (mQ_ HR217.out) hb)
        have n5_ := aM (below_step zb hb)
        clear HO_3
        clear HO199
        clear HR203
        clear HR217
        clear HB
        have HO_3 := n0_
        have HO199 := n1_
        have HO210 := n2_
        have HR203 := n3_
        have HR217 := n4_
        have HB := n5_
        clear n0_ n1_ n2_ n3_ n4_ n5_
        clear hb ho30
        refine hK.out _ _ ⟨(zk HB.out hw207_0), (zk HB.out hw207_1), (zk HB.out hw207_2)⟩ (fun hHeld => ?_)
        clear hK K
        refine norm_ (a' := ?_) ?_ ?_
        rotate_left
        ·show Act.put _ (some 39) _ = _
         simp only [Act.put, xA, xB, xC, i64_w, i32_w]
         rfl
        refine one_ (i := 4) (N := some 34) zA59 rfl rfl (one_of HT_.out (by kernel_rfl)) (by decide) (fun K hK => ?_)
        refine Kd.R_append_rows_step k43 (w0 := w) w.heap.size (by rfl) (.tmp 30) (.tmp 33) 40 43 (.agg #[(.int .i64 0), (.int .i64 0), (.int .i64 0)]) 24 rfl Try.underlying40 info43 rfl (by decide) (by omega) v198 y197 y200 _ _ _ (fun k_ => some k_ ≠ (.slice (some ad194) x3_1.length co22 : Value).ownBlock ∧ some k_ ≠ (v209 : Value).ownBlock) (fun _ => False) rfl rfl ?aO ?aR (fun _ _ h => h) (fun _ h => h.elim) ?aF ?aB ?aS ?aL ?_
        (case aR => repeat (first | exact (mQ_ HR203.out) | (with_reducible refine Kd.C_alloc ?_ _) | (with_reducible refine Kd.C_drewN ?_ _) | (with_reducible refine Kd.C_drew ?_)))
        (case aB => exact zb)
        (case aF => exact (fun k_ hk => ⟨Kd.fresh' (Kd.R_lt (mR_ HO_3.out)) k_ hk, Kd.fresh' (Kd.R_lt (mR_ HO210.out)) k_ hk⟩))
        (case aO => exact (zd9 HO199.out))
        (case aS => exact (below_size zb))
        (case aL => have := LMc16.out; omega)
        intro v205 w31 ho hb hg hat
        rw [← Ny204.out] at ho
        have n0_ := aM (Kd.R_after (ok := (fun k_ => some k_ ≠ (v209 : Value).ownBlock)) (zd8 HO_3.out) hg hat)
        have n1_ := aM (Kd.R_after (ok := (fun k_ => some k_ ≠ (.slice (some ad194) x3_1.length co22 : Value).ownBlock)) (zd9 HO210.out) hg hat)
        have n2_ := aM (hb)
        have n3_ := aM ((show Kd.C k43 w31 (some ad194) y200.length y200 from by rw [Ny200.out]; exact Kd.C_take (m := (x5_2 : Int).toNat) ((Kd.R_reads' (Kd.R_after (ok := (fun k_ => some k_ ≠ (v209 : Value).ownBlock)) (zd8 HO_3.out) hg hat)).2.2) KL25.out))
        have n4_ := aM ((show Kd.C k43 w31 A26 y214.length y214 from by rw [Ny214.out, KA26.out]; exact Kd.C_drop (m := (x5_2 : Int).toNat) (c := co22) ((Kd.R_reads' (Kd.R_after (ok := (fun k_ => some k_ ≠ (v209 : Value).ownBlock)) (zd8 HO_3.out) hg hat)).2.2) KL26.out ((Kd.R_reads' (Kd.R_after (ok := (fun k_ => some k_ ≠ (v209 : Value).ownBlock)) (zd8 HO_3.out) hg hat)).2.1)))
        have n5_ := aM (ho)
        clear HO_3
        clear HO210
        clear HB
        clear HR203
        clear HR217
        clear HO199
        have HO_3 := n0_
        have HO210 := n1_
        have HB := n2_
        have HR203 := n3_
        have HR217 := n4_
        have HO206 := n5_
        clear n0_ n1_ n2_ n3_ n4_ n5_
        clear ho hb hg hat
        refine hK.out _ _ ⟨(zk HB.out hw207_0), (zk HB.out hw207_1), (zk HB.out hw207_2)⟩ (fun hHeld => ?_)
        clear hK K
        refine norm_ (a' := ?_) ?_ ?_
        rotate_left
        ·show Act.put _ (some 34) _ = _
         simp only [Act.put, xA, xB, xC, i64_w, i32_w]
         rfl
        exact norm_ (by simp only [putAll, Act.put, xA, xB, xC]) (hCont (v198, v205, v209) _ ⟨hHeld, (zd7 HO206.out), (zd7 HO210.out), (zd7 HO_3.out), zb⟩)
      ·skip
       refine Kd.R_lit_step k43 _ 43 ?hg (N := 39) ?hd (xs := ([(⟨(rd_T43 l0 x4_1).f0, (rd_T43 l0 x4_1).f1, (rd_T43 l0 x4_1).f2⟩ : S43)] : List (S43))) (inner := [.int .i64 ((rd_T43 l0 x4_1).f0), .int .i64 ((rd_T43 l0 x4_1).f1), .int .i64 ((rd_T43 l0 x4_1).f2)]) (ok := fun _ => True) (okp := fun _ => True) ?hr ?hp (fun _ hk => hk) trivial (Below.refl _ _) (Nat.le_refl _) (by simp) ?_; (case hd => rfl); (case hg => rfl); (case hr => first | (go_simp; done) | (go_simp; rfl)); (case hp => exact (Reps.c3 (show Kd.M k43 _ _ _ (⟨(rd_T43 l0 x4_1).f0, (rd_T43 l0 x4_1).f1, (rd_T43 l0 x4_1).f2⟩ : S43) [.int .i64 ((rd_T43 l0 x4_1).f0), .int .i64 ((rd_T43 l0 x4_1).f1), .int .i64 ((rd_T43 l0 x4_1).f2)] from (k43_mkM _ _ _ (⟨(rd_T43 l0 x4_1).f0, (rd_T43 l0 x4_1).f1, (rd_T43 l0 x4_1).f2⟩ : S43) )) (Reps.none _ _)))
       intro v209 w27 ho28 hb hg_ hnew_
       clear hg_ hnew_
       (first | rw [← Ny208.out] at ho28 | (simp only [Int.reduceToNat] at ho28; rw [← Ny208.out] at ho28))
       have n0_ := aM (Kd.R_elder' (mR_ HO_3.out) (Kd.R_base ho28) hb)
       have n1_ := aM (Kd.R_lower (Kd.R_new' ho28 (Kd.R_lt (mR_ HO_3.out))) (below_size zb))
       have n2_ := aM (Kd.C_below (mQ_ HR203.out) hb)
       have n3_ := aM (Kd.C_below (mQ_ HR217.out) hb)
       have n4_ := aM (below_step zb hb)
       clear HO_3
       clear HR203
       clear HR217
       clear HB
       have HO_3 := n0_
       have HO210 := n1_
       have HR203 := n2_
       have HR217 := n3_
       have HB := n4_
       clear n0_ n1_ n2_ n3_ n4_
       clear hb ho28
       refine hK.out _ _ ⟨(zk HB.out hw207_0), (zk HB.out hw207_1), (zk HB.out hw207_2)⟩ (fun hHeld => ?_)
       clear hK K
       refine norm_ (a' := ?_) ?_ ?_
       rotate_left
       ·show Act.put _ (some 39) _ = _
        simp only [Act.put, xA, xB, xC, i64_w, i32_w]
        rfl
       refine one_ (i := 0) (N := some 30) zA63 rfl rfl (one_of HT_.out (by kernel_rfl)) (by decide) (fun K hK => ?_)
       refine Kd.R_lit_step k43 _ 43 ?hg (N := 30) ?hd (xs := ([] : List (S43))) (inner := []) (ok := fun _ => True) (okp := fun _ => True) ?hr ?hp (fun _ hk => hk) trivial (Below.refl _ _) (Nat.le_refl _) (by simp) ?_; (case hd => rfl); (case hg => rfl); (case hr => first | (go_simp; done) | (go_simp; rfl)); (case hp => exact (Reps.none _ _))
       intro v198 w29 ho30 hb hg_ hnew_
       clear hg_ hnew_
       (first | rw [← Ny197.out] at ho30 | (simp only [Int.reduceToNat] at ho30; rw [← Ny197.out] at ho30))
       have n0_ := aM (Kd.R_elder' (mR_ HO_3.out) (Kd.R_base ho30) hb)
       have n1_ := aM (Kd.R_elder' (mR_ HO210.out) (Kd.R_base ho30) hb)
       have n2_ := aM (Kd.R_lower (Kd.R_new' (Kd.R_new' ho30 (Kd.R_lt (mR_ HO_3.out))) (Kd.R_lt (mR_ HO210.out))) (below_size zb))
       have n3_ := aM (Kd.C_below (mQ_ HR203.out) hb)
       have n4_ := aM (Kd.C_below (mQ_ HR217.out) hb)
       have n5_ := aM (below_step zb hb)
       clear HO_3
       clear HO210
       clear HR203
       clear HR217
       clear HB
       have HO_3 := n0_
       have HO210 := n1_
       have HO199 := n2_
       have HR203 := n3_
       have HR217 := n4_
       have HB := n5_
       clear n0_ n1_ n2_ n3_ n4_ n5_
       clear hb ho30
       refine hK.out _ _ ⟨(zk HB.out hw207_0), (zk HB.out hw207_1), (zk HB.out hw207_2)⟩ (fun hHeld => ?_)
       clear hK K
       refine norm_ (a' := ?_) ?_ ?_
       rotate_left
       ·show Act.put _ (some 30) _ = _
        simp only [Act.put, xA, xB, xC, i64_w, i32_w]
        rfl
       refine one_ (i := 4) (N := some 34) zA59 rfl rfl (one_of HT_.out (by kernel_rfl)) (by decide) (fun K hK => ?_)
       refine Kd.R_append_rows_step k43 (w0 := w) w.heap.size (by rfl) (.tmp 30) (.tmp 33) 40 43 (.agg #[(.int .i64 0), (.int .i64 0), (.int .i64 0)]) 24 rfl Try.underlying40 info43 rfl (by decide) (by omega) v198 y197 y200 _ _ _ (fun k_ => some k_ ≠ (.slice (some ad194) x3_1.length co22 : Value).ownBlock ∧ some k_ ≠ (v209 : Value).ownBlock) (fun _ => False) rfl rfl ?aO ?aR (fun _ _ h => h) (fun _ h => h.elim) ?aF ?aB ?aS ?aL ?_
       (case aR => repeat (first | exact (mQ_ HR203.out) | (with_reducible refine Kd.C_alloc ?_ _) | (with_reducible refine Kd.C_drewN ?_ _) | (with_reducible refine Kd.C_drew ?_)))
       (case aB => exact zb)
       (case aF => exact (fun k_ hk => ⟨Kd.fresh' (Kd.R_lt (mR_ HO_3.out)) k_ hk, Kd.fresh' (Kd.R_lt (mR_ HO210.out)) k_ hk⟩))
       (case aO => exact (zd9 HO199.out))
       (case aS => exact (below_size zb))
       (case aL => have := LMc16.out; omega)
       intro v205 w31 ho hb hg hat
       rw [← Ny204.out] at ho
       have n0_ := aM (Kd.R_after (ok := (fun k_ => some k_ ≠ (v209 : Value).ownBlock)) (zd9 HO_3.out) hg hat)
       have n1_ := aM (Kd.R_after (ok := (fun k_ => some k_ ≠ (.slice (some ad194) x3_1.length co22 : Value).ownBlock)) (zd9 HO210.out) hg hat)
       have n2_ := aM (hb)
       have n3_ := aM ((show Kd.C k43 w31 (some ad194) y200.length y200 from by rw [Ny200.out]; exact Kd.C_take (m := (x5_2 : Int).toNat) ((Kd.R_reads' (Kd.R_after (ok := (fun k_ => some k_ ≠ (v209 : Value).ownBlock)) (zd9 HO_3.out) hg hat)).2.2) KL25.out))
       have n4_ := aM ((show Kd.C k43 w31 A26 y214.length y214 from by rw [Ny214.out, KA26.out]; exact Kd.C_drop (m := (x5_2 : Int).toNat) (c := co22) ((Kd.R_reads' (Kd.R_after (ok := (fun k_ => some k_ ≠ (v209 : Value).ownBlock)) (zd9 HO_3.out) hg hat)).2.2) KL26.out ((Kd.R_reads' (Kd.R_after (ok := (fun k_ => some k_ ≠ (v209 : Value).ownBlock)) (zd9 HO_3.out) hg hat)).2.1)))
       have n5_ := aM (ho)
       clear HO_3
       clear HO210
       clear HB
       clear HR203
       clear HR217
       clear HO199
       have HO_3 := n0_
       have HO210 := n1_
       have HB := n2_
       have HR203 := n3_
       have HR217 := n4_
       have HO206 := n5_
       clear n0_ n1_ n2_ n3_ n4_ n5_
       clear ho hb hg hat
       refine hK.out _ _ ⟨(zk HB.out hw207_0), (zk HB.out hw207_1), (zk HB.out hw207_2)⟩ (fun hHeld => ?_)
       clear hK K
       refine norm_ (a' := ?_) ?_ ?_
       rotate_left
       ·show Act.put _ (some 34) _ = _
        simp only [Act.put, xA, xB, xC, i64_w, i32_w]
        rfl
       exact norm_ (by simp only [putAll, Act.put, xA, xB, xC]) (hCont (v198, v205, v209) _ ⟨hHeld, (zd7 HO206.out), (zd7 HO210.out), (zd7 HO_3.out), zb⟩)
     rintro ⟨v198, v205, v209⟩ w32 ⟨hS_, h0_, h1_, h2_, h3_⟩
     have n0_ : Aside0 (Kd.R k43 43 w32 w.heap.size (fun k_ => some k_ ≠ (v209 : Value).ownBlock ∧ some k_ ≠ (.slice (some ad194) x3_1.length co22 : Value).ownBlock) v205 y204) := ⟨h0_⟩
     have n1_ : Aside0 (Kd.R k43 43 w32 w.heap.size (fun k_ => some k_ ≠ (v205 : Value).ownBlock ∧ some k_ ≠ (.slice (some ad194) x3_1.length co22 : Value).ownBlock) v209 y208) := ⟨h1_⟩
     have n2_ : Aside0 (Kd.R k43 43 w32 w.heap.size (fun k_ => some k_ ≠ (v205 : Value).ownBlock ∧ some k_ ≠ (v209 : Value).ownBlock) (.slice (some ad194) x3_1.length co22) x3_1) := ⟨h2_⟩
     have n3_ : Aside0 (Below w.heap.size w w32) := ⟨h3_⟩
     clear HO_3
     clear HB
     clear h0_ h1_ h2_ h3_
     have HO206 := n0_
     have HO210 := n1_
     have HO_3 := n2_
     have HB := n3_
     clear n0_ n1_ n2_ n3_
     have hHeld : (spec_l09Sort.d3 w32 ad195 x4_1 l0) := hS_
     (try clear HR203)
     have HR203 := aM (show Kd.C k43 _ (some ad194) y200.length y200 from by rw [Ny200.out]; exact Kd.C_take (m := (x5_2 : Int).toNat) ((Kd.R_reads' HO_3.out).2.2) KL25.out)
     (try clear HR217)
     have HR217 := aM (show Kd.C k43 _ A26 y214.length y214 from by rw [Ny214.out, KA26.out]; exact Kd.C_drop (m := (x5_2 : Int).toNat) (c := co22) ((Kd.R_reads' HO_3.out).2.2) KL26.out ((Kd.R_reads' HO_3.out).2.1))
     obtain ⟨Ao34, co34, eo34⟩ := Kd.R_slice HO210.out
     (first | subst eo34 | (injection eo34 with f1_ f2_ f3_; have f4_ := f1_.symm; have f5_ := f3_.symm; clear f1_ f2_ f3_; subst f4_; subst f5_))
     refine norm_ (a' := ?_) ?_ ?_
     rotate_left
     ·simp only [putAll, Act.put, xA, xB, xC]
      rfl
     refine one_ (i := 10) (N := some 40) zA64 rfl rfl (one_of HT_.out (by kernel_rfl)) (by decide) (fun K hK => ?_)
     refine Kd.R_append_rows_step k43 (w0 := w) w.heap.size (by rfl) (.tmp 34) (.tmp 39) 40 43 (.agg #[(.int .i64 0), (.int .i64 0), (.int .i64 0)]) 24 rfl Try.underlying40 info43 rfl (by decide) (by omega) v205 y204 y208 _ _ _ (fun k_ => some k_ ≠ (.slice (some ad194) x3_1.length co22 : Value).ownBlock ∧ some k_ ≠ (.slice Ao34 y208.length co34 : Value).ownBlock) (fun _ => False) rfl rfl ?aO ?aR (fun _ _ h => h) (fun _ h => h.elim) ?aF ?aB ?aS ?aL ?_
     (case aR => exact zc HO210.out)
     (case aB => exact zb)
     (case aF => exact (fun k_ hk => ⟨Kd.fresh' (Kd.R_lt (mR_ HO_3.out)) k_ hk, Kd.fresh' (Kd.R_lt (mR_ HO210.out)) k_ hk⟩))
     (case aO => exact (zd7 HO206.out))
     (case aS => exact (below_size zb))
     (case aL => have := LMc17.out; omega)
     intro v212 w33 ho hb hg hat
     rw [← Ny211.out] at ho
     have n0_ := aM (Kd.R_after (ok := (fun k_ => some k_ ≠ (.slice Ao34 y208.length co34 : Value).ownBlock)) (zd7 HO_3.out) hg hat)
     have n1_ := aM (Kd.R_after (ok := (fun k_ => some k_ ≠ (.slice (some ad194) x3_1.length co22 : Value).ownBlock)) (zd7 HO210.out) hg hat)
     have n2_ := aM (hb)
     have n3_ := aM ((show Kd.C k43 w33 (some ad194) y200.length y200 from by rw [Ny200.out]; exact Kd.C_take (m := (x5_2 : Int).toNat) ((Kd.R_reads' (Kd.R_after (ok := (fun k_ => some k_ ≠ (.slice Ao34 y208.length co34 : Value).ownBlock)) (zd7 HO_3.out) hg hat)).2.2) KL25.out))
     have n4_ := aM ((show Kd.C k43 w33 A26 y214.length y214 from by rw [Ny214.out, KA26.out]; exact Kd.C_drop (m := (x5_2 : Int).toNat) (c := co22) ((Kd.R_reads' (Kd.R_after (ok := (fun k_ => some k_ ≠ (.slice Ao34 y208.length co34 : Value).ownBlock)) (zd7 HO_3.out) hg hat)).2.2) KL26.out ((Kd.R_reads' (Kd.R_after (ok := (fun k_ => some k_ ≠ (.slice Ao34 y208.length co34 : Value).ownBlock)) (zd7 HO_3.out) hg hat)).2.1)))
     have n5_ := aM (ho)
     clear HO_3
     clear HO210
     clear HB
     clear HR203
     clear HR217
     clear HO206
     have HO_3 := n0_
     have HO210 := n1_
     have HB := n2_
     have HR203 := n3_
     have HR217 := n4_
     have HO213 := n5_
     clear n0_ n1_ n2_ n3_ n4_ n5_
     clear ho hb hg hat
     refine hK.out _ _ ⟨(zk HB.out hw207_0), (zk HB.out hw207_1), (zk HB.out hw207_2)⟩ (fun hHeld => ?_)
     clear hK K
     refine norm_ (a' := ?_) ?_ ?_
     rotate_left
     ·show Act.put _ (some 40) _ = _
      simp only [Act.put, xA, xB, xC, i64_w, i32_w]
      rfl
     refine one_ (i := 14) (N := some 44) zA65 rfl rfl (one_of HT_.out (by kernel_rfl)) (by decide) (fun K hK => ?_)
     refine Kd.R_append_rows_step k43 (w0 := w) w.heap.size (by rfl) (.tmp 40) (.tmp 43) 40 43 (.agg #[(.int .i64 0), (.int .i64 0), (.int .i64 0)]) 24 rfl Try.underlying40 info43 rfl (by decide) (by omega) v212 y211 y214 _ _ _ (fun k_ => some k_ ≠ (.slice (some ad194) x3_1.length co22 : Value).ownBlock ∧ some k_ ≠ (.slice Ao34 y208.length co34 : Value).ownBlock) (fun _ => False) rfl rfl ?aO ?aR (fun _ _ h => h) (fun _ h => h.elim) ?aF ?aB ?aS ?aL ?_
     (case aR => repeat (first | exact (mQ_ HR217.out) | (with_reducible refine Kd.C_alloc ?_ _) | (with_reducible refine Kd.C_drewN ?_ _) | (with_reducible refine Kd.C_drew ?_)))
     (case aB => exact zb)
     (case aF => exact (fun k_ hk => ⟨Kd.fresh' (Kd.R_lt (mR_ HO_3.out)) k_ hk, Kd.fresh' (Kd.R_lt (mR_ HO210.out)) k_ hk⟩))
     (case aO => exact (mR_ HO213.out))
     (case aS => exact (below_size zb))
     (case aL => have := LMc20.out; omega)
     intro v219 w35 ho hb hg hat
     rw [← Ny218.out] at ho
     have n0_ := aM (Kd.R_after (ok := (fun k_ => some k_ ≠ (.slice Ao34 y208.length co34 : Value).ownBlock)) (mR_ HO_3.out) hg hat)
     have n1_ := aM (Kd.R_after (ok := (fun k_ => some k_ ≠ (.slice (some ad194) x3_1.length co22 : Value).ownBlock)) (mR_ HO210.out) hg hat)
     have n2_ := aM (hb)
     have n3_ := aM ((show Kd.C k43 w35 (some ad194) y200.length y200 from by rw [Ny200.out]; exact Kd.C_take (m := (x5_2 : Int).toNat) ((Kd.R_reads' (Kd.R_after (ok := (fun k_ => some k_ ≠ (.slice Ao34 y208.length co34 : Value).ownBlock)) (mR_ HO_3.out) hg hat)).2.2) KL25.out))
     have n4_ := aM ((show Kd.C k43 w35 A26 y214.length y214 from by rw [Ny214.out, KA26.out]; exact Kd.C_drop (m := (x5_2 : Int).toNat) (c := co22) ((Kd.R_reads' (Kd.R_after (ok := (fun k_ => some k_ ≠ (.slice Ao34 y208.length co34 : Value).ownBlock)) (mR_ HO_3.out) hg hat)).2.2) KL26.out ((Kd.R_reads' (Kd.R_after (ok := (fun k_ => some k_ ≠ (.slice Ao34 y208.length co34 : Value).ownBlock)) (mR_ HO_3.out) hg hat)).2.1)))
     have n5_ := aM (ho)
     clear HO_3
     clear HO210
     clear HB
     clear HR203
     clear HR217
     clear HO213
     have HO_3 := n0_
     have HO210 := n1_
     have HB := n2_
     have HR203 := n3_
     have HR217 := n4_
     have HO220 := n5_
     clear n0_ n1_ n2_ n3_ n4_ n5_
     clear ho hb hg hat
     refine hK.out _ _ ⟨(zk HB.out hw207_0), (zk HB.out hw207_1), (zk HB.out hw207_2)⟩ (fun hHeld => ?_)
     clear hK K
     refine norm_ (a' := ?_) ?_ ?_
     rotate_left
     ·show Act.put _ (some 44) _ = _
      simp only [Act.put, xA, xB, xC, i64_w, i32_w]
      rfl
     refine zp 15 (some 3) ?_ zA66 rfl rfl (Or.inl ⟨by rfl, ?_⟩) ?_ ?_ ?_
     rotate_left
     ·intro w'
      go_simp
      with_reducible rfl
     rotate_left
     ·simp only [Act.put, xA, xB, xC, i64_w, i32_w]
      rfl
     refine done_ (done_of HT_.out (by kernel_rfl)) ?_
     try go_wp2
     go_roundg k2
     case measure => have := HK1.out; have := HK2.out; omega
     case rel => exact ⟨(y218), (wrap64 (x4_1 + 1)), zr, H', ⟨by have := HK1.out; have := HK2.out; omega⟩, ⟨zd6 HO220.out⟩, ⟨zb⟩⟩
end Go.Proofs.Ytlompfboheiliaa.F
end
section
namespace Go.Proofs.Ytlompfboheiliaa.F
open Go.RowKit Go.Proofs.YtlompfboheiliaaW.PrintWords Go.Proofs.YtlompfboheiliaaW.PrintLast Go.Proofs.YtlompfboheiliaaW.PrintMore
attribute [local go_sem] max2_int min2_int max_two min_two max_three min_three max_four min_four
set_option linter.unusedVariables false
set_option linter.unusedSimpArgs false
mutual
def spec_l09All.l0 : Nat → Int → List (List (S43)) → Int → Option ((List (List (S43))))
 | 0, _, _, _ => none
 | k + 1, x0, x3, x4 => if x4 < x0 then (spec_l09All.l1 k x0 x3 x4 (([] : List (List (S43)))) 0) else (some x3)
def spec_l09All.l1 : Nat → Int → List (List (S43)) → Int → List (List (S43)) → Int → Option ((List (List (S43))))
 | 0, _, _, _, _, _ => none
 | k + 1, x0, x3, x4, x5, x6 => if x6 < (x3.length : Int) then (spec_l09All.l2 k x0 x3 x4 x5 x6 0) else (spec_l09All.l0 k x0 x5 (wrap64 (x4 + 1)))
def spec_l09All.l2 : Nat → Int → List (List (S43)) → Int → List (List (S43)) → Int → Int → Option ((List (List (S43))))
 | 0, _, _, _, _, _, _ => none
 | k + 1, x0, x3, x4, x5, x6, x7 => if 0 ≤ x6 then (if x6 < (x3.length : Int) then (if x7 < ((rd_L2 x3 x6).length : Int) then (spec_l09All.l3 k x0 x3 x4 x5 x6 x7 0) else (spec_l09All.l1 k x0 x3 x4 x5 (wrap64 (x6 + 1)))) else (none)) else (none)
def spec_l09All.l3 : Nat → Int → List (List (S43)) → Int → List (List (S43)) → Int → Int → Int → Option ((List (List (S43))))
 | 0, _, _, _, _, _, _, _ => none
 | k + 1, x0, x3, x4, x5, x6, x7, x8 => if x8 < 6 then (if 0 ≤ x6 then (if x6 < (x3.length : Int) then (if 0 ≤ x7 then (if x7 < ((rd_L2 x3 x6).length : Int) then ((spec_l09Steps.f).bind fun t257 => (if 0 ≤ x8 then (if x8 < (t257.length : Int) then ((spec_l09Add.f ((rd_T43 (rd_L2 x3 x6) x7).f0) ((rd_T43 (rd_L2 x3 x6) x7).f1) ((rd_T43 (rd_L2 x3 x6) x7).f2) ((rd_T43 t257 x8).f0) ((rd_T43 t257 x8).f1) ((rd_T43 t257 x8).f2)).bind fun bt261 => ((spec_l09Index.f k (rd_L2 x3 x6) bt261.1 bt261.2.1 bt261.2.2).bind fun t266 => (if t266 < 0 then ((some (([] : List (S43)) : List (S43))).bind fun y267 => (if y267.length + (rd_L2 x3 x6).length < 5864062014805 then ((some (y267 ++ (rd_L2 x3 x6) : List (S43))).bind fun y271 => ((some (([(⟨bt261.1, bt261.2.1, bt261.2.2⟩ : S43)] : List (S43)) : List (S43))).bind fun y274 => (if y271.length + y274.length < 5864062014805 then ((spec_l09Sort.f k (y271 ++ y274)).bind fun t280 => ((spec_l09Normal.f k t280).bind fun t283 => ((spec_l09Insert.f k x5 t283).bind fun t286 => (spec_l09All.l3 k x0 x3 x4 t286 x6 x7 (wrap64 (x8 + 1)))))) else (none)))) else (none))) else (spec_l09All.l3 k x0 x3 x4 x5 x6 x7 (wrap64 (x8 + 1)))))) else (none)) else (none))) else (none)) else (none)) else (none)) else (none)) else (spec_l09All.l2 k x0 x3 x4 x5 x6 (wrap64 (x7 + 1)))
end
def spec_l09All.f (k : Nat) (a0 : Int) : Option ((List (List (S43)))) := spec_l09All.l0 k a0 (([(([(⟨0, 0, 0⟩ : S43)] : List (S43)))] : List (List (S43)))) 1
def spec_l09All.T15 : Bool × List (List Nat × List Nat) := (true, [([], []), ([], []), ([0, 1], [0, 1]), ([2], [2]), ([], []), ([3, 4], [3, 4]), ([5], [5]), ([], []), ([], []), ([7, 8], [7, 8]), ([9], [9]), ([6, 10, 7], [6, 10]), ([], []), ([12, 11, 11, 0, 1, 2, 3, 4, 5, 6, 7, 8, 9, 10, 11, 12], [11, 12])])
def spec_l09All.B15 : List Nat := [0, 0, 3, 7, 0, 31, 63, 0, 0, 384, 896, 2047, 0, 8191]
theorem spec_l09All.tab15 : rtab .any (opsOf Try.f16 15) = spec_l09All.T15 := by kernel_rfl
theorem spec_l09All.bits15 : waitsOk spec_l09All.T15.2 spec_l09All.B15 = true := by kernel_rfl
def spec_l09All.T17 : Bool × List (List Nat × List Nat) := (true, [([], []), ([], []), ([], []), ([], []), ([2, 3], [2, 3]), ([4], [4]), ([1, 5], [1, 5]), ([], []), ([7], [7]), ([6, 8, 6], [6, 8]), ([9, 9], [9]), ([10, 10], [10]), ([0, 11, 11], [0, 11]), ([12, 12, 0, 1, 2, 3, 4, 5, 6, 7, 8, 9, 10, 11, 12], [0, 12])])
def spec_l09All.B17 : List Nat := [0, 0, 0, 0, 12, 28, 62, 0, 128, 510, 1022, 2046, 4095, 8191]
theorem spec_l09All.tab17 : rtab .any (opsOf Try.f16 17) = spec_l09All.T17 := by kernel_rfl
theorem spec_l09All.bits17 : waitsOk spec_l09All.T17.2 spec_l09All.B17 = true := by kernel_rfl
end Go.Proofs.Ytlompfboheiliaa.F
end
